/- Lemmas (several texts in one). -/
import Derived.Test.YtjdmiodinhlchaaGreatMBasePut7
import Derived.Test.YtjdmiodinhlchaaGreatMBasePut9
import Derived.Test.YtjdmiodinhlchaaGreatMBasePut17
import Derived.Test.YtjdmiodinhlchaaGreatMBasePut18
set_option maxRecDepth 100000
set_option linter.unusedSimpArgs false
set_option linter.unusedVariables false
set_option maxHeartbeats 2000000
namespace Go.Proofs.YtjdmiodinhlchaaGreat.Code
open Go Go.Ev Go.Proofs
theorem Brh (n0:Nat) (s:Bp) (hs:s.length≤1000000000000) (H:Hp): ∀ (m i:Nat) (n:Int) (e:Env),i+m=s.length→0≤n→n<10 ^ (min i 10)→e.get 0= .d (.str s)→e.get 3= .d (.int .i64 n)→e.get 4= .d (.int .i64 i)→
  ∃e',Bg (Bq (ev R) R.glob n0 Bg Q0) [0,3,4] ⟨e,H⟩=some ((match Zl (s.drop i) i n with|none=> .ret|some _=> .exit 0),⟨e',H⟩)∧
   (Zl (s.drop i) i n=none→e'.get 2= .d (.int .i64 (-1)))∧(∀v,Zl (s.drop i) i n=some v→e'.get 0= .d (.str s)∧e'.get 3= .d (.int .i64 v))
 |0,i,n,e,hi,hn,hn2,h0,h3,h4=>by
  have c: ¬ (i:Int)< (s.length:Int):=by omega
  have c': ¬i<s.length:=by omega
  rw[List.drop_of_length_le (by omega),Co]
  refine⟨?_, ?_, ?_, ?_⟩
  rotate_left
  ·simp[Cu,-List.getD_eq_getElem?_getD,-List.map_map,Q0,h0,h3,h4,c,c',Zl]
   try rfl
  ·intro h;simp[Zl] at h
  ·intro v h
   simp only[Zl,Option.some.injEq] at h
   subst h
   constructor
   ·simp[Cu,-List.getD_eq_getElem?_getD,-List.map_map,h0]
   ·simp[Cu,-List.getD_eq_getElem?_getD,-List.map_map,h3]
 |m+1,i,n,e,hi,hn,hn2,h0,h3,h4=>by
  have hil:i<s.length:=by omega
  have c: (i:Int)< (s.length:Int):=by omega
  have hd:=Bnq hil
  obtain⟨b,hb⟩: ∃b,s.getD i 0=b:=⟨_,rfl⟩
  rw[hb] at hd
  have b255:=b.toNat_lt
  have w1:IntKind.i64.wrap ((i:Int)+1)=((i+1:Nat):Int):=by rw[IntWalk.i64_in _ (by omega)];rfl
  rw[hd]
  simp only[Zl]
  cases g:Bba b with
  |false=>
   simp only[Bool.false_eq_true,if_false]
   rw[Co]
   refine⟨?_, ?_, ?_, ?_⟩
   rotate_left
   ·by_cases d1: (b.toNat:Int)<48
    ·simp[Cu,-List.getD_eq_getElem?_getD,-List.map_map,Q0,h0,h3,h4,c,hil,hb,d1]
     try rfl
    ·have d2:57< (b.toNat:Int):=by
      simp only[Bba,Bool.and_eq_false_iff,decide_eq_false_iff_not] at g
      omega
     simp[Cu,-List.getD_eq_getElem?_getD,-List.map_map,Q0,h0,h3,h4,c,hil,hb,d1,d2]
     try rfl
   ·intro _;simp[Cu,-List.getD_eq_getElem?_getD,-List.map_map]
   ·intro v h;simp at h
  |true=>
   have bb:=By5 g
   have d1: ¬ (b.toNat:Int)<48:=by omega
   have d2: ¬57< (b.toNat:Int):=by omega
   simp only[if_true]
   by_cases ten:i<10
   ·have ten': (i:Int)<10:=by omega
    have m1:min i 10=i:=by omega
    have m2:min (i+1) 10=i+1:=by omega
    rw[m1] at hn2
    have pw: (10:Int) ^ (i+1)=10 ^ i*10:=Int.pow_succ ..
    have p9: (10:Int) ^ i≤1000000000:=by
     have: (10:Nat) ^ i≤10 ^ 9:=Nat.pow_le_pow_right (by omega) (by omega)
     have e: ((10 ^ i:Nat):Int)=(10:Int) ^ i:=by simp
     omega
    have w2:IntKind.i64.wrap (n*10)=n*10:=IntWalk.i64_in _ (by omega)
    have w3:IntKind.u8.wrap ((b.toNat:Int) - 48)=(b.toNat:Int) - 48:=IntWalk.u8_in _ (by omega)
    have w4:IntKind.i64.wrap ((b.toNat:Int) - 48)=(b.toNat:Int) - 48:=IntWalk.i64_in _ (by omega)
    have w5:IntKind.i64.wrap (n*10+((b.toNat:Int) - 48))=n*10+((b.toNat:Int) - 48):=IntWalk.i64_in _ (by omega)
    have ih:=Brh n0 s hs H m (i+1) (n*10+((b.toNat:Int) - 48))
    rw[m2,pw] at ih
    rw[if_pos ten]
    generalize Zl (s.drop (i+1)) (i+1) (n*10+((b.toNat:Int) - 48))=FL at ih⊢
    obtain⟨x,hx⟩: ∃x,n*10+((b.toNat:Int) - 48)=x:=⟨_,rfl⟩
    rw[hx] at ih
    have w5:=w5.trans hx
    rw[Co]
    generalize Bg (Bq (ev R) R.glob n0 Bg Q0) [0,3,4]=F at ih⊢
    simp[Cu,-List.getD_eq_getElem?_getD,-List.map_map,Q0,h0,h3,h4,c,hil,hb,d1,d2,ten,ten',w1,w2,w3,w4,w5]
    refine ih _ (by omega) (by omega) (by omega) ?_ ?_ ?_<;>rfl
   ·have ten': ¬ (i:Int)<10:=by omega
    have m1:min i 10=10:=by omega
    have m2:min (i+1) 10=10:=by omega
    rw[m1] at hn2
    have ih:=Brh n0 s hs H m (i+1) n
    rw[m2] at ih
    rw[if_neg ten]
    generalize Zl (s.drop (i+1)) (i+1) n=FL at ih⊢
    rw[Co]
    generalize Bg (Bq (ev R) R.glob n0 Bg Q0) [0,3,4]=F at ih⊢
    simp[Cu,-List.getD_eq_getElem?_getD,-List.map_map,Q0,h0,h3,h4,c,hil,hb,d1,d2,ten,ten',w1]
    refine ih _ (by omega) (by omega) (by omega) ?_ ?_ ?_<;>rfl
theorem Bx0 (H:Hp) (s:Bp) (hs:s.length≤1000000000000):ev R 161 [.d (.str s)] H=some (.d (.int .i64 (Zm s)),H):=by
 refine Bh (fn:=f161) rfl rfl ?_
 obtain⟨e',he,h1,h2⟩:=Brh (Bc H) s hs H s.length 0 0 [(0, .d (.str s)),(3, .d (.int .i64 0)),(4, .d (.int .i64 0))] (by omega) (by omega) (by simp) rfl rfl rfl
 simp only[List.drop_zero] at he h1 h2
 unfold Zm
 cases hr:Zl s 0 0 with
 |none=>
  simp only[hr] at he
  simp[Cu,-List.getD_eq_getElem?_getD,-List.map_map,f161,he,h1 hr]
 |some v=>
  simp only[hr] at he
  obtain⟨g0,g3⟩:=h2 v hr
  have p:=Pg (s.length:Int) 1 10
  by_cases c1:s.length<1
  ·have q: (decide ((s.length:Int)≥1) &&decide ((s.length:Int)≤10))=false:=by simp;omega
   rw[q] at p
   simp[Cu,-List.getD_eq_getElem?_getD,-List.map_map,f161,he,g0,g3,p,c1]
  ·by_cases c2:10<s.length
   ·have q: (decide ((s.length:Int)≥1) &&decide ((s.length:Int)≤10))=false:=by simp;omega
    rw[q] at p
    simp[Cu,-List.getD_eq_getElem?_getD,-List.map_map,f161,he,g0,g3,p,c1,c2]
   ·have q: (decide ((s.length:Int)≥1) &&decide ((s.length:Int)≤10))=true:=by simp;omega
    rw[q] at p
    have k0:0<s.length:=by omega
    have k0': (0:Int)< (s.length:Int):=by omega
    by_cases c3:1<s.length
    ·have c3': (1:Int)< (s.length:Int):=by omega
     have u: ((s.getD 0 0).toNat:Int)=48↔s.getD 0 0=48:=B4f _ 48
     by_cases c4:s.getD 0 0=48
     ·simp[Cu,-List.getD_eq_getElem?_getD,-List.map_map,f161,he,g0,g3,p,c1,c2,c3,c3',k0,k0',c4]
     ·have c4': ¬ ((s.getD 0 0).toNat:Int)=48:=fun h=>c4 (u.1 h)
      simp[Cu,-List.getD_eq_getElem?_getD,-List.map_map,f161,he,g0,g3,p,c1,c2,c3,c3',k0,k0',c4,c4']
    ·have c3': ¬ (1:Int)< (s.length:Int):=by omega
     simp[Cu,-List.getD_eq_getElem?_getD,-List.map_map,f161,he,g0,g3,p,c1,c2,c3,c3',k0,k0']
def Fe (s:Bp):Int×Bool:=
 if 1<s.length∧s.getD 0 0=45 then(if 1≤Zm (s.drop 1)∧Zm (s.drop 1)≤1000000000 then(-Zm (s.drop 1),true) else(0,false))
 else(if 0≤Zm s∧Zm s≤1000000000 then(Zm s,true) else(0,false))
theorem B0z (H:Hp) (s:Bp) (hs:s.length≤1000000000000):ev R 133 [.d (.str s)] H=some (.tup [.d (.int .i64 (Fe s).1), .d (.bool (Fe s).2)],H):=by
 refine Bh (fn:=f133) rfl rfl ?_
 have q:=Pg (Zm s) 0 1000000000
 have q1:=Pg (Zm (s.drop 1)) 1 1000000000
 have p:=Bb (cl:=ev R) fun H=>Bx0 H s hs
 have p1:=Bb (cl:=ev R) fun H=>Bx0 H (s.drop 1) (by simp;omega)
 rw[List.drop_one] at p1 q1
 unfold Fe
 rw[List.drop_one]
 generalize Zm s.tail=f1 at q1 p1⊢
 generalize Zm s=f at q p⊢
 have tl:s.take s.length=s:=List.take_length
 obtain⟨b,hb⟩: ∃b,s.getD 0 0=b:=⟨_,rfl⟩
 by_cases c:1<s.length
 ·have c': (1:Int)< (s.length:Int):=by omega
  have c0: (0:Int)< (s.length:Int):=by omega
  have c1: (1:Int)≤(s.length:Int):=by omega
  have c2:0<s.length:=by omega
  have c3:1≤s.length:=by omega
  have c4:s≠[]:=by rintro rfl;simp at c
  by_cases d:b=45
  ·subst d
   by_cases e1:1≤f1
   ·by_cases e2:f1≤1000000000
    ·have w:IntKind.i64.wrap (-f1)= -f1:=IntWalk.i64_in _ (by omega)
     simp[Cu,-List.getD_eq_getElem?_getD,-List.map_map,f133,c,c',c0,c1,c2,c3,c4,hb,Dp,q1,p1,e1,e2,w]
    ·simp[Cu,-List.getD_eq_getElem?_getD,-List.map_map,f133,c,c',c0,c1,c2,c3,c4,hb,Dp,q1,p1,e1,e2]
   ·simp[Cu,-List.getD_eq_getElem?_getD,-List.map_map,f133,c,c',c0,c1,c2,c3,c4,hb,Dp,q1,p1,e1]
  ·have d': ¬ ((b.toNat:Nat):Int)=45:=fun h=>d (UInt8.toNat_inj.1 (by rw[show(45:UInt8).toNat=45 from rfl];omega))
   have d'': ¬b.toNat=45:=fun h=>d' (by omega)
   by_cases e1:0≤f
   ·by_cases e2:f≤1000000000
    ·simp[Cu,-List.getD_eq_getElem?_getD,-List.map_map,f133,c,c',c0,c1,c2,c3,c4,hb,Dp,q,p,e1,e2,d,d',d'']
    ·simp[Cu,-List.getD_eq_getElem?_getD,-List.map_map,f133,c,c',c0,c1,c2,c3,c4,hb,Dp,q,p,e1,e2,d,d',d'']
   ·simp[Cu,-List.getD_eq_getElem?_getD,-List.map_map,f133,c,c',c0,c1,c2,c3,c4,hb,Dp,q,p,e1,d,d',d'']
 ·have c': ¬ (1:Int)< (s.length:Int):=by omega
  by_cases e1:0≤f
  ·by_cases e2:f≤1000000000
   ·simp[Cu,-List.getD_eq_getElem?_getD,-List.map_map,f133,c,c',q,p,e1,e2]
   ·simp[Cu,-List.getD_eq_getElem?_getD,-List.map_map,f133,c,c',q,p,e1,e2]
  ·simp[Cu,-List.getD_eq_getElem?_getD,-List.map_map,f133,c,c',q,p,e1]
theorem Bbn {xs:List Bp} (h:Nz xs=true):1≤xs.length∧xs.length≤8:=by
 have:=(Ux xs).1 h
 exact this.2
theorem Bgy {xs:List Bp} (h:Nz xs=true): ∀x∈xs,x.length≤40:=((Ux xs).1 h).1
theorem B31 (xs:List Bp) (hx:xs.length≤9223372036854775807):Be (ev R) 160 [.d (Bf xs)]=some (.d (.bool (Nz xs))):=Bb fun H=>B00 H xs hx
theorem B72 (s:Bp):Be (ev R) 55 [.d (.str s)]=some (.d (.bool (Gy s))):=Bb fun H=>Bf2 H s
theorem Bvx {α:Type} {P:α→Prop} {c:Prop} [Decidable c] {a b:α} (ha:P a) (hb:P b):P (if c then a else b):=by split<;>assumption
def Bp7 (x:Int×Int×Int):Prop:=0≤x.1∧x.1≤4∧x.2.1≤8∧0≤x.2.2∧x.2.2≤5
theorem Bup (w:Bp):Bp7 (Bi w):=by
 unfold Bi
 repeat (refine Bvx (P:=Bp7) ⟨by decide,by decide,by decide,by decide,by decide⟩ ?_)
 exact⟨by decide,by decide,by decide,by decide,by decide⟩
def Px:List Bp:=[[83,73,78,84,69,82],[83,85,78,73,79,78],[83,68,73,70,70],[82,69,78,65,77,69]]
theorem Bzw {w:Bp} (h:w∈Px): (Bi w).1=3:=by
 simp only[Px,List.mem_cons,List.not_mem_nil,or_false] at h
 rcases h with rfl|rfl|rfl|rfl<;>rfl
def Bbc (args:List Bp):List Bp:=
 if Nz args=true then
  if(Bi (args.getD 0 [])).1=0∨¬ ((Bi (args.getD 0 [])).1≤(args.length:Int)∧(args.length:Int)≤(Bi (args.getD 0 [])).2.1)∨(Bi (args.getD 0 [])).1=1∨args.getD 0 []=[75,69,89,83] then[] else
  if args.getD 0 []=[68,69,76]∨args.getD 0 []=[69,88,73,83,84,83] then args.drop 1 else
  if args.getD 0 []∈Px then[args.getD 1 [],args.getD 2 []] else[args.getD 1 []]
 else[]
theorem B3k (args:List Bp) (hx:args.length≤1000000):Be (ev R) 128 [.d (Bf args)]=some (.d (Bf (Bbc args))):=Bb fun H=>by
 refine Bh (fn:=f128) rfl rfl ?_
 have p0:=B31 args (by omega)
 unfold Bbc
 cases h0:Nz args with
 |false=>rw[h0] at p0;simp[Cn,-List.getD_eq_getElem?_getD,-List.map_map,f128,p0,Bf]
 |true=>
  rw[h0] at p0
  have hl:=Bbn h0
  clear h0
  obtain⟨w,r,rfl⟩: ∃w r,args=w::r:=by
   cases args with
   |nil=>simp at hl
   |cons w r=>exact⟨w,r,rfl⟩
  have e0: (w::r).getD 0 []=w:=rfl
  have e1: (w::r).length=r.length+1:=rfl
  have e2: ((w::r).length:Int)=(r.length:Int)+1:=by rw[e1];omega
  rw[e0,e2]
  rw[e1] at hl
  simp only[Bf,List.map_cons] at p0
  have p1:=Ff w
  have wi:=Bup w
  have wt:=fun h:w∈Px=>Bzw h
  have p3:=Bhc Px w (by decide)
  have hge: ∀lo:Int,0≤lo→¬lo=0→¬lo=1→lo≤(r.length:Int)+1→1≤r.length:=fun lo a b c d=>by omega
  generalize Bi w=W at*
  obtain⟨lo,hi,kd⟩:=W
  have p2:=Pg ((r.length:Int)+1) lo hi
  dsimp only at*
  by_cases a0:lo=0
  ·simp(maxSteps:=1000000) [Cm,-List.getD_eq_getElem?_getD,-List.map_map,f128,p0,p1,eq_true a0,Bf]
  by_cases a1:lo≤(r.length:Int)+1
  rotate_left
  ·simp(maxSteps:=1000000) [Cm,-List.getD_eq_getElem?_getD,-List.map_map,f128,p0,p1,p2,eq_false a0,eq_false a1,Bf]
  by_cases a2: (r.length:Int)+1≤hi
  rotate_left
  ·simp(maxSteps:=1000000) [Cm,-List.getD_eq_getElem?_getD,-List.map_map,f128,p0,p1,p2,eq_false a0,eq_true a1,eq_false a2,Bf]
  by_cases a3:lo=1
  ·simp(maxSteps:=1000000) [Cm,-List.getD_eq_getElem?_getD,-List.map_map,f128,p0,p1,p2,eq_false a0,eq_true a1,eq_true a2,eq_true a3,Bf]
  have hr:=hge lo wi.1 a0 a3 a1
  obtain⟨k,r',rfl⟩: ∃k r',r=k::r':=by
   cases r with
   |nil=>simp at hr
   |cons w r=>exact⟨w,r,rfl⟩
  have f2: (((k::r').length:Nat):Int)=(r'.length:Int)+1:=by rw[List.length_cons];omega
  have f1: (k::r').length=r'.length+1:=rfl
  rw[f2] at a1 a2 p2
  rw[f1] at hl
  clear hge
  have q1:=Bct (k::r') (by rw[f1];omega)
  have q1n:=Uj (k::r') (by rw[f1];omega)
  simp only[Bf,List.map_cons] at p0 q1 q1n
  have b1: (1:Int)≤(r'.length:Int)+1+1:=by omega
  have b0: (0:Int)≤(r'.length:Int)+1+1:=by omega
  have b00: (0:Int)< (r'.length:Int)+1+1:=by omega
  have b2: (1:Int)< (r'.length:Int)+1+1:=by omega
  by_cases a4:w=[75,69,89,83]
  ·simp(maxSteps:=1000000) [Cm,-List.getD_eq_getElem?_getD,-List.map_map,f128,p0,p1,p2,eq_false a0,eq_true a1,eq_true a2,eq_false a3,eq_true a4,b0,b00,b1,b2,Bf]
  by_cases a5:w=[68,69,76]
  ·simp(maxSteps:=1000000) [Cm,-List.getD_eq_getElem?_getD,-List.map_map,f128,p0,p1,p2,q1,q1n,eq_false a0,eq_true a1,eq_true a2,eq_false a3,eq_false a4,eq_true a5,b0,b00,b1,b2,Bf]
  by_cases a6:w=[69,88,73,83,84,83]
  ·simp(maxSteps:=1000000) [Cm,-List.getD_eq_getElem?_getD,-List.map_map,f128,p0,p1,p2,q1,q1n,eq_false a0,eq_true a1,eq_true a2,eq_false a3,eq_false a4,eq_false a5,eq_true a6,b0,b00,b1,b2,Bf]
  by_cases a7:w∈Px
  ·have:=wt a7
   subst this
   obtain⟨k2,r2,rfl⟩: ∃k2 r2,r'=k2::r2:=by
    cases r' with
    |nil=>simp at a1
    |cons w r=>exact⟨w,r,rfl⟩
   have q2:=Bct [k,k2] (by simp)
   have q2n:=Uj [k,k2] (by simp)
   rw[decide_eq_true a7] at p3
   simp only[Px,Bf,List.map_cons,List.map_nil] at p0 p3 q2 q2n
   have g2: (((k2::r2).length:Nat):Int)=(r2.length:Int)+1:=by rw[List.length_cons];omega
   rw[g2] at a1 a2 p2 b0 b00 b1 b2
   have b3: (3:Int)≤(r2.length:Int)+1+1+1:=by omega
   simp(maxSteps:=1000000) [Cm,-List.getD_eq_getElem?_getD,-List.map_map,f128,p0,p1,p2,p3,q2,q2n,eq_false a0,eq_true a1,eq_true a2,eq_false a3,eq_false a4,eq_false a5,eq_false a6,eq_true a7,b0,b00,b1,b2,b3,Bf]
  ·rw[decide_eq_false a7] at p3
   simp only[Px,Bf,List.map_cons,List.map_nil] at p3
   simp(maxSteps:=1000000) [Cm,-List.getD_eq_getElem?_getD,-List.map_map,f128,p0,p1,p2,p3,eq_false a0,eq_true a1,eq_true a2,eq_false a3,eq_false a4,eq_false a5,eq_false a6,eq_false a7,b0,b00,b1,b2,Bf]
def Xw (t:Bp) (there:Bool) (by':Bp):Int×Bool:=
 if there=true∧(Fe t).2=false then(0,false) else
 if(Fe by').2=true∧ -1000000000≤(if there=true then(Fe t).1 else 0)+(Fe by').1∧(if there=true then(Fe t).1 else 0)+(Fe by').1≤1000000000 then((if there=true then(Fe t).1 else 0)+(Fe by').1,true) else(0,false)
theorem Ji (t:Bp): -1000000000≤(Fe t).1∧(Fe t).1≤1000000000:=by
 unfold Fe
 repeat' split
 all_goals (dsimp only;omega)
theorem Lx (s:Bp) (hs:s.length≤1000000):Be (ev R) 133 [.d (.str s)]=some (.tup [.d (.int .i64 (Fe s).1), .d (.bool (Fe s).2)]):=Bb fun H=>B0z H s (by omega)
theorem Brt (t:Bp) (there:Bool) (y:Bp) (ht:t.length≤1000000) (hy:y.length≤1000000):Be (ev R) 135 [.d (.str t), .d (.bool there), .d (.str y)]=some (.tup [.d (.int .i64 (Xw t there y).1), .d (.bool (Xw t there y).2)]):=Bb fun H=>by
 refine Bh (fn:=f135) rfl rfl ?_
 have p1:=Lx t ht
 have p2:=Lx y hy
 have i1:=Ji t
 have i2:=Ji y
 unfold Xw
 generalize Fe t=T at*
 generalize Fe y=Y at*
 obtain⟨m,mo⟩:=T
 obtain⟨n,no⟩:=Y
 dsimp only at*
 have w:IntKind.i64.wrap (m+n)=m+n:=IntWalk.i64_in _ (by omega)
 have w0:IntKind.i64.wrap (0+n)=n:=by rw[IntWalk.i64_in _ (by omega)];omega
 have w1:IntKind.i64.wrap n=n:=IntWalk.i64_in _ (by omega)
 have p3:=Pg (m+n) (-1000000000) 1000000000
 have p4:=Pg n (-1000000000) 1000000000
 cases there<;>cases mo<;>cases no
 all_goals try (simp[Cn,-List.getD_eq_getElem?_getD,-List.map_map,f135,p1,p2];done)
 ·have a: -1000000000≤n:=by omega
  have b:n≤1000000000:=by omega
  simp[Cn,-List.getD_eq_getElem?_getD,-List.map_map,f135,p1,p2,p4,w,w0,w1,a,b]
 ·have a: -1000000000≤n:=by omega
  have b:n≤1000000000:=by omega
  simp[Cn,-List.getD_eq_getElem?_getD,-List.map_map,f135,p1,p2,p4,w,w0,w1,a,b]
 ·by_cases a: -1000000000≤m+n
  ·by_cases b:m+n≤1000000000
   ·simp[Cn,-List.getD_eq_getElem?_getD,-List.map_map,f135,p1,p2,p3,w,w0,w1,eq_true a,eq_true b]
   ·simp[Cn,-List.getD_eq_getElem?_getD,-List.map_map,f135,p1,p2,p3,w,w0,w1,eq_true a,eq_false b]
  ·simp[Cn,-List.getD_eq_getElem?_getD,-List.map_map,f135,p1,p2,p3,w,w0,w1,eq_false a]
def Bi5 (b:Ba) (kind:Int) (k:Bp):Bp:=if Gy k=false then[107,101,121] else if kind≠0∧(Ca b k).kind≠0∧(Ca b k).kind≠kind then[107,105,110,100] else[]
def K7 (b:Ba) (kind:Int):List Bp→Bp
 | []=> []
 |k::r=>if Bi5 b kind k=[] then K7 b kind r else Bi5 b kind k
def Cz (b:Ba) (args:List Bp):Bp:=
 if(Bi (args.getD 0 [])).1=0 then[117,110,107,110,111,119,110] else
 if ¬ ((Bi (args.getD 0 [])).1≤(args.length:Int)∧(args.length:Int)≤(Bi (args.getD 0 [])).2.1) then[119,111,114,100,115] else
 K7 b (Bi (args.getD 0 [])).2.2 (Bbc args)
theorem Bn3 (args:List Bp): (Bbc args).length≤args.length+2:=by
 unfold Bbc
 repeat' split
 all_goals (simp only[List.length_nil,List.length_cons,List.length_drop];omega)
theorem Bf1 {α:Type} (xs:List α) (i:Nat) (d:α) (h:i<xs.length):xs.drop i=xs.getD i d::xs.drop (i+1):=by
 rw[List.drop_eq_getElem_cons h]
 simp[List.getD_eq_getElem?_getD,h]
theorem B1h (H:Hp) (b:Ba) (kd:Int) (ks:List Bp) (hk:ks.length≤1000000) (hb:BaSm b):
  Gives (fun o e X=> (o= .exit 1∧K7 b kd ks=[]∧X=ap H [.row 0 2 [.d (Dx b)]])∨(o= .ret∧e.get 4= .d (.str (K7 b kd ks))∧Dl X (Bc H)=H)) (Bg (Bq (ev R) R.glob (Bc H) Bg Qy) [2,7,8,9] ⟨[(2, .ptr (Bc H) 0 0 0),(7, .d (.int .i64 kd)),(8, .d (Bf ks)),(9, .d (.int .i64 0))],ap H [.row 0 2 [.d (Dx b)]]⟩):=by
 refine Dh (F:=Bq (ev R) R.glob (Bc H) Bg Qy) (lv:=[2,7,8,9]) ks.length
  (fun i e X=>X=ap H [.row 0 2 [.d (Dx b)]]∧e.get 2= .ptr (Bc H) 0 0 0∧e.get 7= .d (.int .i64 kd)∧e.get 8= .d (Bf ks)∧e.get 9= .d (.int .i64 i)∧K7 b kd ks=K7 b kd (ks.drop i))
  _ ?_ ?_ ks.length 0 _ _ (by omega) ⟨rfl,rfl,rfl,rfl,rfl,rfl⟩
 ·rintro e X ⟨rfl,g2,g7,g8,g9,hr⟩
  rw[List.drop_length] at hr
  have hr:K7 b kd ks=[]:=hr
  simp[Cn,-List.getD_eq_getElem?_getD,-List.map_map,Qy,g2,g7,g8,g9,hr,Bf]
 ·rintro i e X hi ⟨rfl,g2,g7,g8,g9,hr⟩
  have c: (i:Int)< (ks.length:Int):=by omega
  have g:=Dv ks i hi
  rw[Bf1 ks i [] hi] at hr
  simp only[K7] at hr
  have p1:=B72 (ks.getD i [])
  have p2:=G9 b (ks.getD i []) hb
  have w1:IntKind.i64.wrap ((i:Int)+1)=((i+1:Nat):Int):=by rw[IntWalk.i64_in _ (by omega)];rfl
  unfold Bi5 at hr
  generalize ks.getD i []=k at*
  cases h1:Gy k with
  |false=>
   rw[h1] at p1 hr
   have hr:K7 b kd ks=[107,101,121]:=hr
   simp[Cn,-List.getD_eq_getElem?_getD,-List.map_map,Qy,g2,g7,g8,g9,c,g,hi,p1,hr,Bf]
  |true=>
   rw[h1] at p1 hr
   generalize Ca b k=E at*
   by_cases a1:kd=0
   ·have hr:K7 b kd ks=K7 b kd (ks.drop (i+1)):=by simpa[a1] using hr
    simp[Cn,-List.getD_eq_getElem?_getD,-List.map_map,Qy,g2,g7,g8,g9,c,g,hi,p1,p2,eq_true a1,w1,eq_true hr,Bf]
   ·by_cases a2:E.kind=0
    ·have hr:K7 b kd ks=K7 b kd (ks.drop (i+1)):=by simpa[a1,a2] using hr
     simp[Cn,-List.getD_eq_getElem?_getD,-List.map_map,Qy,g2,g7,g8,g9,c,g,hi,p1,p2,eq_false a1,eq_true a2,w1,eq_true hr,Bf]
    ·by_cases a3:E.kind=kd
     ·have hr:K7 b kd ks=K7 b kd (ks.drop (i+1)):=by simpa[a1,a2,a3] using hr
      simp[Cn,-List.getD_eq_getElem?_getD,-List.map_map,Qy,g2,g7,g8,g9,c,g,hi,p1,p2,eq_false a1,eq_false a2,eq_true a3,w1,eq_true hr,Bf]
     ·have hr:K7 b kd ks=[107,105,110,100]:=by simpa[a1,a2,a3] using hr
      simp[Cn,-List.getD_eq_getElem?_getD,-List.map_map,Qy,g2,g7,g8,g9,c,g,hi,p1,p2,eq_false a1,eq_false a2,eq_false a3,w1,hr,Bf]
theorem Fh (b:Ba) (args:List Bp) (hb:BaSm b) (hx:args.length≤1000) (h1:1≤args.length):Be (ev R) 107 [.d (Dx b), .d (Bf args)]=some (.d (.str (Cz b args))):=Bb fun H=>by
 refine Bh (fn:=f107) rfl rfl ?_
 have hkl:=Bn3 args
 have p1:=Ff (args.getD 0 [])
 have p3:=B3k args (by omega)
 have g0:=Dv args 0 (by omega)
 have c0: (0:Int)< (args.length:Int):=by omega
 have c0':0<args.length:=by omega
 have lp:=B1h H b (Bi (args.getD 0 [])).2.2 (Bbc args) (by omega) hb
 have p2:=Pg (args.length:Int) (Bi (args.getD 0 [])).1 (Bi (args.getD 0 [])).2.1
 unfold Cz
 generalize Bbc args=ks at*
 generalize args.getD 0 []=w at*
 generalize Bi w=W at*
 obtain⟨lo,hi,kd⟩:=W
 dsimp only at*
 by_cases a0:lo=0
 ·simp[Cn,-List.getD_eq_getElem?_getD,-List.map_map,f107,p1,g0,c0,c0',eq_true a0,Bf]
 by_cases a1:lo≤(args.length:Int)
 rotate_left
 ·simp[Cn,-List.getD_eq_getElem?_getD,-List.map_map,f107,p1,p2,g0,c0,c0',eq_false a0,eq_false a1,Bf]
 by_cases a2: (args.length:Int)≤hi
 rotate_left
 ·simp[Cn,-List.getD_eq_getElem?_getD,-List.map_map,f107,p1,p2,g0,c0,c0',eq_false a0,eq_true a1,eq_false a2,Bf]
 obtain⟨o,e',X',he,hq⟩:=lp.out
 rcases hq with⟨rfl,hq,rfl⟩ | ⟨rfl,g4,ht⟩
 ·simp[Cn,-List.getD_eq_getElem?_getD,-List.map_map,f107,p1,p2,p3,g0,c0,c0',eq_false a0,eq_true a1,eq_true a2,he,hq,Bf]
 ·simp[Cn,-List.getD_eq_getElem?_getD,-List.map_map,f107,p1,p2,p3,g0,c0,c0',eq_false a0,eq_true a1,eq_true a2,he,g4,ht,Bf]
structure EnQ (e:En):Prop where
 key:e.key.length≤1000000
 text:e.text.length≤1000000
 list:e.list.length≤1000
 lists: ∀x∈e.list,x.length≤1000000
 scores:e.scores.length≤1000
 scoress: ∀x∈e.scores,x.1.length≤1000000∧ -2000000000≤x.2∧x.2≤2000000000
 fields:e.fields.length≤1000
 fieldss: ∀x∈e.fields,x.1.length≤1000000∧x.2.length≤1000000
 till:0≤e.till∧e.till≤10000000
 kind:0≤e.kind∧e.kind≤10
theorem EnQ.sm {e:En} (h:EnQ e):EnSm e:=⟨by have:=h.list;omega,by have:=h.scores;omega,by have:=h.fields;omega⟩
theorem Wt {α:Type} {P:α→Prop} {xs:List α} {d:α} (h: ∀x∈xs,P x) (hd:P d) (i:Nat):P (xs.getD i d):=by
 by_cases hi:i<xs.length
 ·exact h _ (Gp hi)
 ·rw[List.getD_eq_getElem?_getD,List.getElem?_eq_none (by omega)];exact hd
theorem EnQ.fit {e:En} (h:EnQ e):EnFit e:=by
 obtain⟨h1,h2,h3,h4,h5,h6,h7,h8,h9,h10⟩:=h
 refine⟨by omega,by omega,by omega, ?_,by omega, ?_,by omega, ?_,⟨by omega,by omega⟩,⟨by omega,by omega⟩⟩
 ·intro i
  have:=Wt (P:=fun x:Bp=>x.length≤1000000) h4 (d:=[]) (by simp) i
  omega
 ·intro i
  have:=Wt (P:=fun x:Sc=>x.1.length≤1000000∧ -2000000000≤x.2∧x.2≤2000000000) h6 (d:=([],0)) (by simp) i
  omega
 ·intro i
  have:=Wt (P:=fun x:Pr=>x.1.length≤1000000∧x.2.length≤1000000) h8 (d:=([],[])) (by simp) i
  omega
structure BaG (b:Ba):Prop where
 len:b.ents.length≤12
 each: ∀e∈b.ents,Gn e=true
 now:0≤b.now∧b.now≤2000000
theorem Ng {xs:List Bp} (h:Cq xs=true): ∀x∈xs,x.length≤40:=by
 unfold Cq at h
 simp only[Bool.and_eq_true,decide_eq_true_eq,Option.isNone_iff_eq_none] at h
 obtain⟨h1,h2⟩:=h
 intro x hx
 obtain⟨i,hi,rfl⟩:=List.getElem_of_mem hx
 have:=Tz h1 i (by omega) (by omega)
 simp only[Km,decide_eq_false_iff_not,List.getD_eq_getElem?_getD,List.getElem?_eq_getElem hi,Option.getD_some] at this
 omega
theorem K4 {p:Nat→Bool} : ∀ {n i:Nat},Fj p n i=false→∀j,i≤j→j<i+n→p j=false
 |0,i,_,j,h1,h2=>by omega
 |n+1,i,h,j,h1,h2=>by
  simp only[Fj,Bool.or_eq_false_iff] at h
  by_cases hj:j=i
  ·subst hj;exact h.1
  ·exact K4 h.2 j (by omega) (by omega)
theorem U8 {p:Nat→Bool} : ∀ {n i:Nat},(∀j,i≤j→j<i+n→p j=false)→Fj p n i=false
 |0,i,_=>rfl
 |n+1,i,h=>by
  simp only[Fj,Bool.or_eq_false_iff]
  exact⟨h i (by omega) (by omega),U8 fun j h1 h2=>h j (by omega) (by omega)⟩
theorem Lp {α:Type} {P:α→Prop} {xs:List α} (d:α) (h: ∀i,i<xs.length→P (xs.getD i d)): ∀x∈xs,P x:=by
 intro x hx
 obtain⟨i,hi,rfl⟩:=List.getElem_of_mem hx
 have:=h i hi
 rwa[List.getD_eq_getElem?_getD,List.getElem?_eq_getElem hi,Option.getD_some] at this
theorem Rl {xs:List Sc} (h:Dg xs=true):xs.length≤16∧∀x∈xs,x.1.length≤40∧ -1000000000≤x.2∧x.2≤1000000000:=by
 unfold Dg at h
 simp only[Bool.and_eq_true,decide_eq_true_eq,Bool.not_eq_true'] at h
 refine⟨h.2,Lp ([],0) fun i hi=> ?_⟩
 have:=K4 h.1 i (by omega) (by omega)
 unfold Lj at this
 simp only[Bool.or_eq_false_iff,decide_eq_false_iff_not,Bool.not_eq_false',Bool.and_eq_true,decide_eq_true_eq] at this
 obtain⟨⟨⟨a,b⟩,_⟩,_⟩:=this
 omega
theorem Ba6 {xs:List Pr} (h:Dw xs=true):xs.length≤16∧∀x∈xs,x.1.length≤40∧x.2.length≤40:=by
 unfold Dw at h
 simp only[Bool.and_eq_true,decide_eq_true_eq,Bool.not_eq_true'] at h
 refine⟨h.2,Lp ([],[]) fun i hi=> ?_⟩
 have:=K4 h.1 i (by omega) (by omega)
 unfold Li at this
 simp only[Bool.or_eq_false_iff,decide_eq_false_iff_not] at this
 obtain⟨⟨a,b⟩,_⟩:=this
 omega
theorem Bwr {xs:List Bp} (h:Gi xs=true):Cq xs=true:=by
 unfold Gi at h
 simp only[Bool.and_eq_true] at h
 exact h.2
structure EnOkS (e:En):Prop where
 key:1≤e.key.length∧e.key.length≤12
 text:e.text.length≤40
 list:Cq e.list=true
 scores:Dg e.scores=true
 fields:Dw e.fields=true
 till:0≤e.till∧e.till≤2000000
 kind:1≤e.kind∧e.kind≤5
 set:e.kind=3→Gi e.list=true
 t1:e.kind≠1→e.text=[]
 t2:e.kind≠2→e.kind≠3→e.list=[]
 t4:e.kind≠4→e.scores=[]
 t5:e.kind≠5→e.fields=[]
 n2:e.kind=2∨e.kind=3→e.list≠[]
 n4:e.kind=4→e.scores≠[]
 n5:e.kind=5→e.fields≠[]
theorem Si:Cq []=true:=by decide
theorem Pv:Dg []=true:=by decide
theorem Pm:Dw []=true:=by decide
theorem Bek {e:En} (h:Gn e=true):EnOkS e:=by
 unfold Gn at h
 simp only[Bool.and_eq_true] at h
 obtain⟨⟨hk,ht⟩,hd⟩:=h
 unfold Gy at hk
 unfold Fv at ht
 simp only[Bool.and_eq_true,decide_eq_true_eq] at hk ht
 have hk1:1≤e.key.length∧e.key.length≤12:=by omega
 obtain⟨key,till,kind,text,list,scores,fields⟩:=e
 dsimp only at*
 unfold Mr at hd
 dsimp only at hd
 split at hd
 ·rename_i k
  simp only[Bool.and_eq_true,decide_eq_true_eq,List.isEmpty_iff] at hd
  obtain⟨⟨⟨a,rfl⟩,rfl⟩,rfl⟩:=hd
  subst k
  exact⟨hk1,a,Si,Pv,Pm,ht,by simp,by simp,by simp,by simp,by simp,by simp,by simp,by simp,by simp⟩
 split at hd
 ·rename_i k
  simp only[Bool.and_eq_true,Bool.not_eq_true',List.isEmpty_iff,List.isEmpty_eq_false_iff] at hd
  obtain⟨⟨⟨⟨rfl,a⟩,b⟩,rfl⟩,rfl⟩:=hd
  subst k
  exact⟨hk1,by simp,b,Pv,Pm,ht,by simp,by simp,by simp,by simp,by simp,by simp,fun _=>a,by simp,by simp⟩
 split at hd
 ·rename_i k
  simp only[Bool.and_eq_true,Bool.not_eq_true',List.isEmpty_iff,List.isEmpty_eq_false_iff] at hd
  obtain⟨⟨⟨⟨rfl,a⟩,b⟩,rfl⟩,rfl⟩:=hd
  subst k
  exact⟨hk1,by simp,Bwr b,Pv,Pm,ht,by simp,fun _=>b,by simp,by simp,by simp,by simp,fun _=>a,by simp,by simp⟩
 split at hd
 ·rename_i k
  simp only[Bool.and_eq_true,Bool.not_eq_true',List.isEmpty_iff,List.isEmpty_eq_false_iff] at hd
  obtain⟨⟨⟨⟨rfl,rfl⟩,a⟩,b⟩,rfl⟩:=hd
  subst k
  exact⟨hk1,by simp,Si,b,Pm,ht,by simp,by simp,by simp,by simp,by simp,by simp,by simp,fun _=>a,by simp⟩
 split at hd
 ·rename_i k
  simp only[Bool.and_eq_true,Bool.not_eq_true',List.isEmpty_iff,List.isEmpty_eq_false_iff] at hd
  obtain⟨⟨⟨⟨rfl,rfl⟩,rfl⟩,a⟩,b⟩:=hd
  subst k
  exact⟨hk1,by simp,Si,Pv,b,ht,by simp,by simp,by simp,by simp,by simp,by simp,by simp,by simp,fun _=>a⟩
 ·simp at hd
theorem Bez {xs:List Bp} (h:Cq xs=true):xs.length≤16:=Bjz h
theorem EnOkS.q {e:En} (h:EnOkS e):EnQ e:=by
 obtain⟨h1,h2,h3,h4,h5,h6,h7,_,_,_,_,_,_,_,_⟩:=h
 have a:=Ng h3
 have b:=Bez h3
 have c:=Rl h4
 have d:=Ba6 h5
 refine⟨by omega,by omega,by omega,fun x hx=> ?_,by omega,fun x hx=> ?_,by omega,fun x hx=> ?_,by omega,by omega⟩
 ·have:=a x hx;omega
 ·have:=c.2 x hx;omega
 ·have:=d.2 x hx;omega
theorem Bam {e:En} (h:Gn e=true):EnQ e:=(Bek h).q
theorem BaG.sm {b:Ba} (h:BaG b):BaSm b:=⟨by have:=h.len;omega,fun e he=> (Bam (h.each e he)).sm⟩
theorem BaG.fit {b:Ba} (h:BaG b):BaFit b:=⟨by have:=h.now;exact⟨by omega,by omega⟩,by have:=h.len;omega,fun e he=> (Bam (h.each e he)).fit⟩
theorem Bmt {b:Ba} (h:BaG b) (t:Bp):Gn (Ca b t)=true∨Ca b t=⟨t,0,0,[],[],[],[]⟩:=by
 unfold Ca
 split
 ·rename_i hh
  exact .inl (h.each _ (Gp (Mk hh)))
 ·exact .inr rfl
theorem Dz {b:Ba} (h:BaG b) {t:Bp} (ht:t.length≤1000000):EnQ (Ca b t):=by
 rcases Bmt h t with a|a
 ·exact Bam a
 ·rw[a]
  exact⟨ht,by simp,by simp,by simp,by simp,by simp,by simp,by simp,by simp,by simp⟩
theorem Sk {b:Ba} (h:BaG b) (t:Bp):BaG (Dn b t):=⟨Nat.le_trans (Sl b t) h.len,fun e he=>h.each e (Bb0 he),by rw[Pb];exact h.now⟩
theorem Bdi {α:Type} {xs:List α} {k:Nat} {x y:α} (h:y∈D6 xs k x):y=x∨y∈xs:=by
 unfold D6 at h
 rw[List.mem_append,List.mem_cons] at h
 rcases h with h|h|h
 ·exact .inr (List.mem_of_mem_take h)
 ·exact .inl h
 ·exact .inr (List.mem_of_mem_drop h)
theorem Bmu {b:Ba} (h:BaG b) (e:En):BaG (Pd b e).1:=by
 unfold Pd
 split
 ·exact Sk h e.key
 ·split
  ·rename_i h1
   unfold Ny at h1
   simp only[Bool.and_eq_true,decide_eq_true_eq] at h1
   obtain⟨⟨h1,_⟩,h2⟩:=h1
   refine⟨?_,fun x hx=> ?_,h.now⟩
   ·rw[Fy];omega
   ·rcases Bdi hx with rfl|hx
    ·exact h1
    ·exact(Sk h e.key).each x hx
  ·exact h
theorem Gz {b:Ba} (h:BaG b) (e:En) (r:Re):BaG (Fq b e r).1:=by
 unfold Fq
 split
 ·exact Bmu h e
 ·exact h
end Go.Proofs.YtjdmiodinhlchaaGreat.Code

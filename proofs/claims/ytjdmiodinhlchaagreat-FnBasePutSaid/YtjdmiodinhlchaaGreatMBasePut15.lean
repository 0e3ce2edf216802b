/- Lemmas (several texts in one). -/
import Derived.Test.YtjdmiodinhlchaaGreatMBasePut7
import Derived.Test.YtjdmiodinhlchaaGreatMBasePut12
import Derived.Test.YtjdmiodinhlchaaGreatMBasePut14
set_option maxRecDepth 100000
set_option linter.unusedSimpArgs false
set_option linter.unusedVariables false
namespace Go.Proofs.YtjdmiodinhlchaaGreat.Code
open Go Go.Ev Go.Proofs
theorem Bkl (xs:List Bp) (hx:xs.length≤9223372036854775807):Be (ev R) 56 [.d (Bf xs)]=some (.d (.bool (Cq xs))):=Bb fun H=>Bej H xs hx
theorem Byf (xs:List Bp) (hx:xs.length≤1000000):Be (ev R) 164 [.d (Bf xs)]=some (.d (Bf xs.reverse)):=Bb fun H=>by
 refine Bh (fn:=f164) rfl rfl ?_
 have hyl:xs.reverse.length=xs.length:=List.length_reverse
 have hyg: ∀i,i<xs.length→xs.reverse.getD i []=xs.getD (xs.length - 1 - i) []:=fun i hi=>by
  rw[List.getD_eq_getElem?_getD,List.getElem?_reverse (by omega),←List.getD_eq_getElem?_getD]
 generalize xs.reverse=ys at*
 obtain⟨o,e',X',he,rfl,rfl,g3⟩:=(Dh (F:=Bq (ev R) R.glob (Bc H) Bg Beq) (lv:=[0,3,4]) xs.length
  (fun i e X=> ∃zs,zs=ys.take i∧zs.length=i∧X=ap H [.row zs.length 1 ((zs.map D.str).map V.d)]∧e.get 0= .d (Bf xs)∧e.get 3= .slc (Bc H) zs.length 0 zs.length∧e.get 4= .d (.int .i64 ((xs.length:Int) - 1 - i)))
  (fun o e X=>o= .exit 0∧X=ap H [.row xs.length 1 ((ys.map D.str).map V.d)]∧e.get 3= .slc (Bc H) xs.length 0 xs.length)
  (by
   rintro e X ⟨zs,hz,hl,rfl,g0,g3,g4⟩
   have h1:zs=ys:=by rw[hz];exact List.take_of_length_le (by omega)
   subst h1
   have c: ¬ (xs.length:Int)≤(xs.length:Int) - 1:=by omega
   rw[hyl] at g3
   simp[Cn,-List.getD_eq_getElem?_getD,-List.map_map,Beq,g0,g3,g4,c,hyl,Bf])
  (by
   rintro i e X hi ⟨zs,hz,hl,rfl,g0,g3,g4⟩
   have c: (0:Int)≤(xs.length:Int) - 1 - (i:Int):=by omega
   obtain⟨k,hk⟩: ∃k:Nat,(k:Int)=(xs.length:Int) - 1 - (i:Int):=⟨xs.length - 1 - i,by omega⟩
   have hkl:k<xs.length:=by omega
   have c0: (0:Int)≤(k:Int):=by omega
   have c1: (k:Int)< (xs.length:Int):=by omega
   have g:=Dv xs k hkl
   have w1:IntKind.i64.wrap ((k:Int) - 1)=(xs.length:Int) - 1 - ((i:Int)+1):=by rw[IntWalk.i64_in _ (by omega)];omega
   rw[←hk] at g4
   have r: (i+1)*16≤Cv:=by unfold Cv;omega
   have hn:ys.take (i+1)=zs++[xs.getD k []]:=by
    have:xs.length - 1 - i=k:=by omega
    rw[Jv ys i [] (by omega),←hz,hyg i hi,this]
   simp[Cn,-List.getD_eq_getElem?_getD,-List.map_map,Beq,g0,g3,g4,c0,c1,hkl,g,w1,r,hn,hl,Bf])
  xs.length 0 [(0, .d (Bf xs)),(3, .slc (Bc H) 0 0 0),(4, .d (.int .i64 ((xs.length:Int) - 1)))] (ap H [.row 0 1 []]) (by omega) ⟨[],by simp,rfl,rfl,rfl,rfl,by show V.d (D.int IntKind.i64 ((xs.length:Int) - 1))=_;simp⟩).out
 have w:IntKind.i64.wrap ((xs.length:Int) - 1)=(xs.length:Int) - 1:=IntWalk.i64_in _ (by omega)
 have ft:List.take xs.length ((ys.map D.str).map V.d)=(ys.map D.str).map V.d:=List.take_of_length_le (by simp;omega)
 simp[Cn,-List.getD_eq_getElem?_getD,-List.map_map,f164,he,g3,w,ft,hyl,Bf]
def Sq (xs:List Bp) (f t:Int):List Bp:=((xs.take (Kb xs.length f t).2.toNat).drop (Kb xs.length f t).1.toNat)
def J6 (n:Int):Bool:=decide (-1000000000≤n) &&decide (n≤1000000000)
theorem Ban (n:Nat) (f t:Int):0≤(Kb n f t).1∧(Kb n f t).1≤(Kb n f t).2∧(Kb n f t).2≤n:=by
 unfold Kb
 dsimp only
 repeat' split
 all_goals dsimp only
 all_goals omega
theorem B3p (xs:List Bp) (f t:Int) (hx:xs.length≤1000000):Be (ev R) 140 [.d (Bf xs), .d (.int .i64 f), .d (.int .i64 t)]=
  some (.d (Bf (if Cq xs=true∧J6 f=true∧J6 t=true then Sq xs f t else[]))):=Bb fun H=>by
 refine Bh (fn:=f140) rfl rfl ?_
 have p1:=Bkl xs (by omega)
 have p2:Be (ev R) 163 [.d (.int .i64 f)]=some (.d (.bool (J6 f))):=Bdp f
 have p3:Be (ev R) 163 [.d (.int .i64 t)]=some (.d (.bool (J6 t))):=Bdp t
 cases h1:Cq xs with
 |false=>rw[h1] at p1;simp[Cn,-List.getD_eq_getElem?_getD,-List.map_map,f140,p1,Bf]
 |true=>
  cases h2:J6 f with
  |false=>rw[h1] at p1;rw[h2] at p2;simp[Cn,-List.getD_eq_getElem?_getD,-List.map_map,f140,p1,p2,Bf]
  |true=>
   cases h3:J6 t with
   |false=>rw[h1] at p1;rw[h2] at p2;rw[h3] at p3;simp[Cn,-List.getD_eq_getElem?_getD,-List.map_map,f140,p1,p2,p3,Bf]
   |true=>
    rw[h1] at p1;rw[h2] at p2;rw[h3] at p3
    unfold J6 at h2 h3
    simp only[Bool.and_eq_true,decide_eq_true_eq] at h2 h3
    have p4:=Brs xs.length f t (by omega) h2 h3
    obtain⟨b1,b2,b3⟩:=Ban xs.length f t
    have hr:Sq xs f t=((xs.take (Kb xs.length f t).2.toNat).drop (Kb xs.length f t).1.toNat):=rfl
    generalize(Kb xs.length f t).1=a at*
    generalize(Kb xs.length f t).2=b at*
    obtain⟨A,rfl⟩: ∃A:Nat,a=(A:Int):=⟨a.toNat,by omega⟩
    obtain⟨B,rfl⟩: ∃B:Nat,b=(B:Int):=⟨b.toNat,by omega⟩
    simp only[Int.toNat_natCast] at hr
    have b5:A≤B:=by omega
    have b6:B≤xs.length:=by omega
    have hd:List.drop A (List.take B (List.map D.str xs))=(Sq xs f t).map D.str:=by rw[hr];simp only[List.map_drop,List.map_take]
    have hl: (Sq xs f t).length≤1000000:=by rw[hr];simp only[List.length_drop,List.length_take];omega
    have p5:=Bct (Sq xs f t) hl
    have p6:=Uj (Sq xs f t) hl
    simp[Cn,-List.getD_eq_getElem?_getD,-List.map_map,f140,p1,p2,p3,p4,Dp,b1,b2,b3,b5,b6,hd,p5,p6,Bf]
theorem B3m (xs:List Bp) (f:Bool) (hx:xs.length≤1000000):Be (ev R) 137 [.d (Bf xs), .d (.bool f)]=
  some (if Cq xs=true∧0<xs.length then(if f=true then .tup [.d (Bf xs.tail), .d (.str (xs.getD 0 [])), .d (.bool true)] else .tup [.d (Bf (xs.take (xs.length - 1))), .d (.str (xs.getD (xs.length - 1) [])), .d (.bool true)]) else .tup [.d (Bf []), .d (.str []), .d (.bool false)]):=Bb fun H=>by
 refine Bh (fn:=f137) rfl rfl ?_
 have p1:=Bkl xs (by omega)
 cases h1:Cq xs with
 |false=>rw[h1] at p1;simp[Cn,-List.getD_eq_getElem?_getD,-List.map_map,f137,p1,Bf]
 |true=>
  rw[h1] at p1
  by_cases h0:0<xs.length
  ·have h0': ¬ (xs.length:Int)=0:=by omega
   have h0'': (0:Int)< (xs.length:Int):=by omega
   have h1': (1:Int)≤(xs.length:Int):=by omega
   have h1'':1≤xs.length:=by omega
   have hne: ¬xs.length=0:=by omega
   cases f with
   |true=>
    have p5:=Bct xs.tail (by simp;omega)
    have p6:=Uj xs.tail (by simp;omega)
    simp only[Bf,List.map_tail] at p5 p6
    have g:=Dv xs 0 h0
    simp[Cn,-List.getD_eq_getElem?_getD,-List.map_map,f137,p1,h0,h0',h0'',h1',h1'',eq_false hne,g,Dp,p5,p6,Bf]
   |false=>
    obtain⟨k,hk⟩: ∃k:Nat,xs.length=k+1:=⟨xs.length - 1,by omega⟩
    have w:IntKind.i64.wrap ((xs.length:Int) - 1)=(k:Int):=by rw[IntWalk.i64_in _ (by omega)];omega
    have hk1:xs.length - 1=k:=by omega
    have c1: (k:Int)≤(xs.length:Int):=by omega
    have c2: (k:Int)< (xs.length:Int):=by omega
    have c3:k≤xs.length:=by omega
    have c4: (0:Int)≤(k:Int):=by omega
    have c5:k<xs.length:=by omega
    have p5:=Bct (xs.take k) (by simp;omega)
    have p6:=Uj (xs.take k) (by simp;omega)
    simp only[Bf,List.map_take] at p5 p6
    have g:=Dv xs k (by omega)
    rw[hk1]
    simp[Cn,-List.getD_eq_getElem?_getD,-List.map_map,f137,p1,h0,h0',h0'',h1',h1'',eq_false hne,g,w,c1,c2,c3,c4,c5,Dp,p5,p6,Bf]
  ·have h0': (xs.length:Int)=0:=by omega
   have h00:xs.length=0:=by omega
   simp[Cn,-List.getD_eq_getElem?_getD,-List.map_map,f137,p1,eq_true h0',eq_true h00,h0,Bf]
theorem Baf {Y l H:Hp} (h:Dl Y (Bc H)=H) (hle:Bc H≤Bc Y):Dl (ap Y l) (Bc H)=H:=by
 have:Dl (ap Y l) (Bc H)=Dl Y (Bc H):=by
  simp only[ap,Dl,Bc] at*
  exact List.take_append_of_le_length hle
 rw[this,h]
theorem Bzc {H X:Hp} {r g e:Nat} {ds:List D} {k:Nat} (hr:Di X r g=some (e,ds.map V.d)) (hk:k=ds.length) (hle:Bc H≤r):Y0 (Bc H) X (.slc r g 0 k)=some (.d (.vals e ds)):=by
 subst hk
 have h: ((ds.map V.d).drop 0).take ds.length=ds.map V.d:=by rw[List.drop_zero,List.take_of_length_le (by simp)]
 have:=Yb (H:=X) (n:=Bc H) (d:=7) (r:=r) (g:=g) (i:=0) (k:=ds.length) (by omega) hr (by simp) (by rw[h];exact Bbj _)
 show(if r<Bc H then _ else(match fz (Bc H) Qw _ (.slc r g 0 ds.length) with|some x=>some (V.d x) |none=>none))=_
 rw[if_neg (by omega)]
 show(match fz (Bc H) (7+1) _ (.slc r g 0 ds.length) with|some x=>some (V.d x) |none=>none)=_
 rw[this]
def Bhl (xs:List Bp) (f:Bool) (ts:List Bp):List Bp:=if f=true then ts.reverse++xs else xs++ts
theorem Bzm (xs ts:List Bp) (hx:xs.length≤1000000) (ht:ts.length≤1000000):Be (ev R) 162 [.d (Bf xs), .d (.bool false), .d (Bf ts)]=some (.d (Bf (xs++ts))):=Bb fun H=>by
 refine Bh (fn:=f162) rfl rfl ?_
 have q:=fun H=>Bqv H xs hx
 obtain⟨o,e',X',he,zs,hz,rfl,rfl,g7⟩:=(Dh (F:=Bq (ev R) R.glob (Bc H) Bg Qa) (lv:=[1,2,7,8]) ts.length
  (fun i e X=> ∃zs,zs=xs++ts.take i∧zs.length=xs.length+i∧X=ap H [.row i 1 ((zs.map D.str).map V.d)]∧e.get 1= .d (.bool false)∧e.get 2= .d (Bf ts)∧e.get 7= .slc (Bc H) i 0 zs.length∧e.get 8= .d (.int .i64 i))
  (fun o e X=> ∃zs,zs=xs++ts∧o= .exit 0∧X=ap H [.row ts.length 1 ((zs.map D.str).map V.d)]∧e.get 7= .slc (Bc H) ts.length 0 zs.length)
  (by
   rintro e X ⟨zs,hz,hl,rfl,g1,g2,g7,g8⟩
   rw[List.take_length] at hz
   simp[Cn,-List.getD_eq_getElem?_getD,-List.map_map,Qa,g1,g2,g7,g8,Bf]
   subst hz
   simp)
  (by
   rintro i e X hi ⟨zs,hz,hl,rfl,g1,g2,g7,g8⟩
   have c: (i:Int)< (ts.length:Int):=by omega
   have g:=Dv ts i hi
   have w1:IntKind.i64.wrap ((i:Int)+1)=((i+1:Nat):Int):=by rw[IntWalk.i64_in _ (by omega)];rfl
   have r: (zs.length+1)*16≤Cv:=by unfold Cv;omega
   have hn:zs++[ts.getD i []]=xs++ts.take (i+1):=by rw[Jv ts i [] hi,hz,List.append_assoc]
   have hl':zs.length+1=xs.length+(i+1):=by omega
   have key:Bq (ev R) R.glob (Bc H) Bg Qa ⟨e.keep [1,2,7,8],ap H [.row i 1 ((zs.map D.str).map V.d)]⟩=some (.normal,⟨[(8, .d (.int .i64 ((i+1:Nat):Int))),(16, .d (.int .i64 ((i+1:Nat):Int))),(15, .d (.int .i64 i)),(1, .d (.bool false)),(2, .d (Bf ts)),(7, .slc (Bc H) (i+1) 0 (zs.length+1)),(8, .d (.int .i64 i))],ap H [.row (i+1) 1 (((zs++[ts.getD i []]).map D.str).map V.d)]⟩):=by
    simp[Cn,-List.getD_eq_getElem?_getD,-List.map_map,Qa,g1,g2,g7,g8,c,hi,g,w1,r,Bf]
   rw[key]
   exact⟨_,hn,by simp[hl];omega,rfl,rfl,rfl,by simp[Env.get];rfl,rfl⟩)
  ts.length 0 [(1, .d (.bool false)),(2, .d (Bf ts)),(7, .slc (Bc H) 0 0 xs.length),(8, .d (.int .i64 0))] (ap H [.row 0 1 ((xs.map D.str).map V.d)]) (by omega) ⟨xs,by simp,rfl,rfl,rfl,rfl,rfl,rfl⟩).out
 have ft:List.take zs.length ((zs.map D.str).map V.d)=(zs.map D.str).map V.d:=List.take_of_length_le (by simp)
 rw[←hz]
 simp[Cn,-List.getD_eq_getElem?_getD,-List.map_map,f162,q,he,g7,ft,Bf]
theorem Bzn (xs ts:List Bp) (hx:xs.length≤1000000) (ht:ts.length≤1000000):Be (ev R) 162 [.d (Bf xs), .d (.bool true), .d (Bf ts)]=some (.d (Bf (ts.reverse++xs))):=Bb fun H=>by
 refine Bh (fn:=f162) rfl rfl ?_
 have q:=fun H=>Bqv H xs hx
 obtain⟨o,e',X',he,zs,Y,g,hz,rfl,rfl,tk,hle,g7⟩:=(Dh (F:=Bq (ev R) R.glob (Bc H) Bg Qa) (lv:=[1,2,7,8]) ts.length
  (fun i e X=> ∃zs Y g,zs=(ts.take i).reverse++xs∧zs.length=xs.length+i∧X=ap Y [.row g 1 ((zs.map D.str).map V.d)]∧Dl Y (Bc H)=H∧Bc H≤Bc Y∧e.get 1= .d (.bool true)∧e.get 2= .d (Bf ts)∧e.get 7= .slc (Bc Y) g 0 zs.length∧e.get 8= .d (.int .i64 i))
  (fun o e X=> ∃zs Y g,zs=ts.reverse++xs∧o= .exit 0∧X=ap Y [.row g 1 ((zs.map D.str).map V.d)]∧Dl Y (Bc H)=H∧Bc H≤Bc Y∧e.get 7= .slc (Bc Y) g 0 zs.length)
  (by
   rintro e X ⟨zs,Y,g,hz,hl,rfl,tk,hle,g1,g2,g7,g8⟩
   rw[List.take_length] at hz
   have key:Bq (ev R) R.glob (Bc H) Bg Qa ⟨e.keep [1,2,7,8],ap Y [.row g 1 ((zs.map D.str).map V.d)]⟩=some (.exit 0,⟨[(1, .d (.bool true)),(2, .d (Bf ts)),(7, .slc (Bc Y) g 0 zs.length),(8, .d (.int .i64 ts.length)),(14, .d (.bool false))],ap Y [.row g 1 ((zs.map D.str).map V.d)]⟩):=by
    simp[Cn,-List.getD_eq_getElem?_getD,-List.map_map,Qa,g1,g2,g7,g8,Bf]
   rw[key]
   exact⟨by simp,zs,Y,g,hz,rfl,rfl,tk,hle,rfl⟩)
  (by
   rintro i e X hi ⟨zs,Y,g0,hz,hl,rfl,tk,hle,g1,g2,g7,g8⟩
   have c: (i:Int)< (ts.length:Int):=by omega
   have g:=Dv ts i hi
   have w1:IntKind.i64.wrap ((i:Int)+1)=((i+1:Nat):Int):=by rw[IntWalk.i64_in _ (by omega)];rfl
   have r: (1+zs.length)*16≤Cv:=by unfold Cv;omega
   have hn:ts.getD i []::zs=(ts.take (i+1)).reverse++xs:=by rw[Jv ts i [] hi,hz,List.reverse_append];rfl
   have ft:List.take zs.length ((zs.map D.str).map V.d)=(zs.map D.str).map V.d:=List.take_of_length_le (by simp)
   have ft':List.take zs.length (zs.map D.str)=zs.map D.str:=List.take_of_length_le (by simp)
   have key:Bq (ev R) R.glob (Bc H) Bg Qa ⟨e.keep [1,2,7,8],ap Y [.row g0 1 ((zs.map D.str).map V.d)]⟩=some (.normal,⟨[(8, .d (.int .i64 ((i+1:Nat):Int))),(16, .d (.int .i64 ((i+1:Nat):Int))),(15, .d (.int .i64 i)),(1, .d (.bool true)),(2, .d (Bf ts)),(7, .slc (Bc Y+1) 1 0 (1+zs.length)),(8, .d (.int .i64 i))],ap Y [.row g0 1 ((zs.map D.str).map V.d), .row 1 1 (((ts.getD i []::zs).map D.str).map V.d)]⟩):=by
    simp[Cn,-List.getD_eq_getElem?_getD,-List.map_map,Qa,g1,g2,g7,g8,c,hi,g,w1,r,ft,ft',Bf]
   rw[key]
   refine⟨_,ap Y [.row g0 1 ((zs.map D.str).map V.d)],1,hn,by simp;omega,by rw[Bqb];rfl, ?_, ?_,rfl,rfl, ?_,rfl⟩
   ·exact Baf tk hle
   ·rw[Bad];omega
   ·rw[Bad,List.length_cons (a:=ts.getD i []),Nat.add_comm zs.length 1];rfl)
  ts.length 0 [(1, .d (.bool true)),(2, .d (Bf ts)),(7, .slc (Bc H) 0 0 xs.length),(8, .d (.int .i64 0))] (ap H [.row 0 1 ((xs.map D.str).map V.d)]) (by omega) ⟨xs,H,0,by simp,rfl,rfl,Gu H,Nat.le_refl _,rfl,rfl,rfl,rfl⟩).out
 have ft:List.take zs.length ((zs.map D.str).map V.d)=(zs.map D.str).map V.d:=List.take_of_length_le (by simp)
 have tk2: ∀l,Dl (ap Y l) (Bc H)=H:=fun l=>Baf tk hle
 have b1:Nat.blt (Bc Y) (Bc H)=false:=by
  cases h:Nat.blt (Bc Y) (Bc H) with
  |false=>rfl
  |true=>simp at h;omega
 have b2: ¬Bc Y<Bc H:=by omega
 have fz:=Bzc (H:=H) (X:=ap Y [.row g 1 ((zs.map D.str).map V.d)]) (r:=Bc Y) (g:=g) (e:=1) (ds:=zs.map D.str) (k:=zs.length) (by simp[Di,Bee,Ce]) (by simp) hle
 rw[←hz]
 simp[Cn,-List.getD_eq_getElem?_getD,-List.map_map,f162,q,he,g7,ft,tk2,b1,b2,fz,Bf]
theorem B32 (xs:List Bp) (f:Bool) (ts:List Bp) (hx:xs.length≤1000000) (ht:ts.length≤1000000):Be (ev R) 162 [.d (Bf xs), .d (.bool f), .d (Bf ts)]=some (.d (Bf (Bhl xs f ts))):=by
 cases f with
 |false=>exact Bzm xs ts hx ht
 |true=>exact Bzn xs ts hx ht
theorem Bjz {xs:List Bp} (h:Cq xs=true):xs.length≤16:=by
 unfold Cq at h
 rw[Bool.and_eq_true,decide_eq_true_eq] at h
 exact h.2
theorem B3l (xs:List Bp) (f:Bool) (ts:List Bp) (hx:xs.length≤1000000) (ht:ts.length≤1000000):Be (ev R) 136 [.d (Bf xs), .d (.bool f), .d (Bf ts)]=
  some (if Cq xs=true then(if Cq ts=true∧xs.length+ts.length≤16 then .tup [.d (Bf (Bhl xs f ts)), .d (.bool true)] else .tup [.d (Bf xs), .d (.bool false)]) else .tup [.d (Bf []), .d (.bool false)]):=Bb fun H=>by
 refine Bh (fn:=f136) rfl rfl ?_
 have p1:=Bkl xs (by omega)
 have p2:=Bkl ts (by omega)
 have p3:=B32 xs f ts hx ht
 have p5:=Bct xs hx
 have p6:=Uj xs hx
 have w:IntKind.i64.wrap ((xs.length:Int)+(ts.length:Int))=(xs.length:Int)+(ts.length:Int):=IntWalk.i64_in _ (by omega)
 cases h1:Cq xs with
 |false=>rw[h1] at p1;simp[Cn,-List.getD_eq_getElem?_getD,-List.map_map,f136,p1,Bf]
 |true=>
  rw[h1] at p1
  cases h2:Cq ts with
  |false=>rw[h2] at p2;simp[Cn,-List.getD_eq_getElem?_getD,-List.map_map,f136,p1,p2,p5,p6,Bf]
  |true=>
   rw[h2] at p2
   by_cases hl:xs.length+ts.length≤16
   ·have hl': ¬ (16:Int)< (xs.length:Int)+(ts.length:Int):=by omega
    simp[Cn,-List.getD_eq_getElem?_getD,-List.map_map,f136,p1,p2,p3,w,hl,hl',Bf]
   ·have hl': (16:Int)< (xs.length:Int)+(ts.length:Int):=by omega
    simp[Cn,-List.getD_eq_getElem?_getD,-List.map_map,f136,p1,p2,p5,p6,w,hl,hl',Bf]
def Lm (n:Nat) (k:Int):Int:=if k<0 then k+n else k
def Zr (xs:List Bp) (at':Int) (t:Bp):Option (List Bp):=
 if J6 at'=true∧t.length≤40∧0≤Lm xs.length at'∧Lm xs.length at'≤(xs.length:Int) - 1 then some (xs.set (Lm xs.length at').toNat t) else none
theorem B3n (xs:List Bp) (k:Int) (t:Bp) (hx:xs.length≤1000000) (hk:Bp4 k):Be (ev R) 138 [.d (Bf xs), .d (.int .i64 k), .d (.str t)]=
  some (if Cq xs=true then(match Zr xs k t with|some ys=> .tup [.d (Bf ys), .d (.bool true)] |none=> .tup [.d (Bf xs), .d (.bool false)]) else .tup [.d (Bf []), .d (.bool false)]):=Bb fun H=>by
 refine Bh (fn:=f138) rfl rfl ?_
 have p1:=Bkl xs (by omega)
 have q:=fun H=>Bqv H xs hx
 have p2:Be (ev R) 163 [.d (.int .i64 k)]=some (.d (.bool (J6 k))):=Bdp k
 have ft:List.take xs.length ((xs.map D.str).map V.d)=(xs.map D.str).map V.d:=List.take_of_length_le (by simp)
 cases h1:Cq xs with
 |false=>rw[h1] at p1;simp[Cn,-List.getD_eq_getElem?_getD,-List.map_map,f138,p1,Bf]
 |true=>
  rw[h1] at p1
  cases h2:J6 k with
  |false=>
   rw[h2] at p2
   have hr:Zr xs k t=none:=by unfold Zr;rw[h2];simp
   simp[Cn,-List.getD_eq_getElem?_getD,-List.map_map,f138,p1,p2,q,hr,ft,Bf]
  |true=>
   rw[h2] at p2
   by_cases ht:t.length≤40
   ·have ht': ¬ (40:Int)< (t.length:Int):=by omega
    have h2':=h2
    unfold J6 at h2'
    simp only[Bool.and_eq_true,decide_eq_true_eq] at h2'
    have w1:IntKind.i64.wrap (k+(xs.length:Int))=k+(xs.length:Int):=IntWalk.i64_in _ (by omega)
    have w2:IntKind.i64.wrap ((xs.length:Int) - 1)=(xs.length:Int) - 1:=IntWalk.i64_in _ (by omega)
    have p3:=Pg (Lm xs.length k) 0 ((xs.length:Int) - 1)
    have fe:Lm xs.length k=if k<0 then k+xs.length else k:=rfl
    by_cases hin:0≤Lm xs.length k∧Lm xs.length k≤(xs.length:Int) - 1
    ·obtain⟨j,hj⟩: ∃j:Nat,Lm xs.length k=(j:Int):=⟨(Lm xs.length k).toNat,by omega⟩
     have hr:Zr xs k t=some (xs.set j t):=by unfold Zr;rw[if_pos ⟨h2,ht,hin.1,hin.2⟩,hj];rfl
     rw[hj] at p3 fe hin
     have hjl:j<xs.length:=by omega
     have hjl': (j:Int)< (xs.length:Int):=by omega
     have hj0: (0:Int)≤(j:Int):=by omega
     have hj1: (j:Int)≤(xs.length:Int) - 1:=by omega
     have w3:IntKind.i64.wrap (j:Int)=(j:Int):=IntWalk.i64_in _ (by omega)
     have hb: (decide ((j:Int)≥0) &&decide ((j:Int)≤(xs.length:Int) - 1))=true:=by rw[Bool.and_eq_true,decide_eq_true_eq,decide_eq_true_eq];exact hin
     rw[hb] at p3
     have hneg: ¬ (j:Int)<0:=by omega
     have sf:=Bcd D.str xs j t
     have f6: (xs.set j t).length=xs.length:=List.length_set
     have f4:List.take xs.length (List.map V.d (List.map D.str (xs.set j t)))=List.map V.d (List.map D.str (xs.set j t)):=List.take_of_length_le (by simp)
     rw[hr]
     dsimp only
     generalize xs.set j t=zs at*
     by_cases hn:k<0
     ·rw[if_pos hn] at fe
      simp[Cn,-List.getD_eq_getElem?_getD,-List.map_map,f138,p1,p2,q,ht',hn,w1,w2,w3,←fe,p3,hjl,hjl',hj0,hj1,sf,f6,f4,ft,Bf]
     ·rw[if_neg hn] at fe
      subst fe
      simp[Cn,-List.getD_eq_getElem?_getD,-List.map_map,f138,p1,p2,q,ht',hneg,w1,w2,w3,p3,hjl,hjl',hj0,hj1,sf,f6,f4,ft,Bf]
    ·have hr:Zr xs k t=none:=by unfold Zr;rw[if_neg (fun h=>hin ⟨h.2.2.1,h.2.2.2⟩)]
     have hb: (decide (Lm xs.length k≥0) &&decide (Lm xs.length k≤(xs.length:Int) - 1))=false:=by
      rw[←Bool.not_eq_true,Bool.and_eq_true,decide_eq_true_eq,decide_eq_true_eq];exact hin
     rw[hb] at p3
     by_cases hn:k<0
     ·rw[fe,if_pos hn] at p3
      simp[Cn,-List.getD_eq_getElem?_getD,-List.map_map,f138,p1,p2,q,ht',hn,w1,w2,p3,hr,ft,Bf]
     ·rw[fe,if_neg hn] at p3
      simp[Cn,-List.getD_eq_getElem?_getD,-List.map_map,f138,p1,p2,q,ht',hn,w1,w2,p3,hr,ft,Bf]
   ·have ht': (40:Int)< (t.length:Int):=by omega
    have hr:Zr xs k t=none:=by unfold Zr;rw[if_neg (fun h=>ht h.2.1)]
    simp[Cn,-List.getD_eq_getElem?_getD,-List.map_map,f138,p1,p2,q,ht',hr,ft,Bf]
def Ms (xs ts:List Bp):List Bp:=ts.foldl Yi xs
theorem Bhm (xs:List Bp) (t:Bp): (Yi xs t).length≤xs.length+1:=by
 unfold Yi
 split
 ·omega
 ·rw[Fy];omega
theorem Bby (xs ts:List Bp): (Ms xs ts).length≤xs.length+ts.length:=by
 unfold Ms
 induction ts generalizing xs with
 |nil=>simp
 |cons t ts ih=>
  have h1:=ih (Yi xs t)
  have h2:=Bhm xs t
  simp only[List.foldl_cons,List.length_cons]
  omega
theorem Bds (xs ts:List Bp) (i:Nat) (hi:i<ts.length):Yi (Ms xs (ts.take i)) (ts.getD i [])=Ms xs (ts.take (i+1)):=by
 rw[Jv ts i [] hi];simp only[Ms,List.foldl_append,List.foldl_cons,List.foldl_nil]
theorem B3t (xs ts:List Bp) (hx:xs.length≤500000) (ht:ts.length≤500000):Be (ev R) 147 [.d (Bf xs), .d (Bf ts)]=
  some (.d (Bf (if Gi xs=true∧Gi ts=true then Ms xs ts else[]))):=Bb fun H=>by
 refine Bh (fn:=f147) rfl rfl ?_
 have p1:=Bhf xs (by omega)
 have p2:=Bhf ts (by omega)
 have p5:=Bct xs (by omega)
 have p6:=Uj xs (by omega)
 cases h1:Gi xs with
 |false=>rw[h1] at p1;simp[Cn,-List.getD_eq_getElem?_getD,-List.map_map,f147,p1,p2,Bf]
 |true=>
  rw[h1] at p1
  cases h2:Gi ts with
  |false=>rw[h2] at p2;simp[Cn,-List.getD_eq_getElem?_getD,-List.map_map,f147,p1,p2,Bf]
  |true=>
   rw[h2] at p2
   obtain⟨o,e',X',he,rfl,rfl,g5⟩:=(Dh (F:=Bq (ev R) R.glob (Bc H) Bg Bep) (lv:=[1,5,6]) ts.length
    (fun i e X=>X=H∧e.get 1= .d (Bf ts)∧e.get 5= .d (Bf (Ms xs (ts.take i)))∧e.get 6= .d (.int .i64 i))
    (fun o e X=>o= .exit 0∧X=H∧e.get 5= .d (Bf (Ms xs ts)))
    (by
     rintro e X ⟨rfl,g1,g5,g6⟩
     rw[List.take_length] at g5
     simp[Cn,-List.getD_eq_getElem?_getD,-List.map_map,Bep,g1,g5,g6,Bf])
    (by
     rintro i e X hi ⟨rfl,g1,g5,g6⟩
     have c: (i:Int)< (ts.length:Int):=by omega
     have g:=Dv ts i hi
     have w1:IntKind.i64.wrap ((i:Int)+1)=((i+1:Nat):Int):=by rw[IntWalk.i64_in _ (by omega)];rfl
     have hl:=Bby xs (ts.take i)
     have hl2: (ts.take i).length≤ts.length:=by rw[List.length_take];omega
     have p3:=Brp (Ms xs (ts.take i)) (ts.getD i []) (by omega)
     rw[Bds xs ts i hi] at p3
     generalize Ms xs (ts.take i)=A at*
     generalize Ms xs (ts.take (i+1))=B at*
     simp[Cn,-List.getD_eq_getElem?_getD,-List.map_map,Bep,g1,g5,g6,c,hi,g,w1,p3,Bf])
    ts.length 0 [(1, .d (Bf ts)),(5, .d (Bf xs)),(6, .d (.int .i64 0))] H (by omega) ⟨rfl,rfl,rfl,rfl⟩).out
   simp[Cn,-List.getD_eq_getElem?_getD,-List.map_map,f147,p1,p2,p5,p6,he,g5,Bf]
theorem B3q (xs ts:List Bp) (hx:xs.length≤500000) (ht:ts.length≤500000):Be (ev R) 142 [.d (Bf xs), .d (Bf ts)]=
  some (if Gi xs=true then(if Cq ts=true∧(Ms xs ts).length≤16 then .tup [.d (Bf (Ms xs ts)), .d (.int .i64 ((Ms xs ts).length - xs.length)), .d (.bool true)] else .tup [.d (Bf xs), .d (.int .i64 0), .d (.bool false)]) else .tup [.d (Bf []), .d (.int .i64 0), .d (.bool false)]):=Bb fun H=>by
 refine Bh (fn:=f142) rfl rfl ?_
 have p1:=Bhf xs (by omega)
 have p2:=Bkl ts (by omega)
 have p5:=Bct xs (by omega)
 have p6:=Uj xs (by omega)
 cases h1:Gi xs with
 |false=>rw[h1] at p1;simp[Cn,-List.getD_eq_getElem?_getD,-List.map_map,f142,p1,p2,Bf]
 |true=>
  rw[h1] at p1
  cases h2:Cq ts with
  |false=>rw[h2] at p2;simp[Cn,-List.getD_eq_getElem?_getD,-List.map_map,f142,p1,p2,p5,p6,Bf]
  |true=>
   rw[h2] at p2
   obtain⟨o,e',X',he,rfl,rfl,g0,g7⟩:=(Dh (F:=Bq (ev R) R.glob (Bc H) Bg Beo) (lv:=[0,1,7,8]) ts.length
    (fun i e X=>X=H∧e.get 0= .d (Bf xs)∧e.get 1= .d (Bf ts)∧e.get 7= .d (Bf (Ms xs (ts.take i)))∧e.get 8= .d (.int .i64 i))
    (fun o e X=>o= .exit 0∧X=H∧e.get 0= .d (Bf xs)∧e.get 7= .d (Bf (Ms xs ts)))
    (by
     rintro e X ⟨rfl,g0,g1,g5,g6⟩
     rw[List.take_length] at g5
     simp[Cn,-List.getD_eq_getElem?_getD,-List.map_map,Beo,g0,g1,g5,g6,Bf])
    (by
     rintro i e X hi ⟨rfl,g0,g1,g5,g6⟩
     have c: (i:Int)< (ts.length:Int):=by omega
     have g:=Dv ts i hi
     have w1:IntKind.i64.wrap ((i:Int)+1)=((i+1:Nat):Int):=by rw[IntWalk.i64_in _ (by omega)];rfl
     have hl:=Bby xs (ts.take i)
     have hl2: (ts.take i).length≤ts.length:=by rw[List.length_take];omega
     have p3:=Brp (Ms xs (ts.take i)) (ts.getD i []) (by omega)
     rw[Bds xs ts i hi] at p3
     generalize Ms xs (ts.take i)=A at*
     generalize Ms xs (ts.take (i+1))=B at*
     simp[Cn,-List.getD_eq_getElem?_getD,-List.map_map,Beo,g0,g1,g5,g6,c,hi,g,w1,p3,Bf])
    ts.length 0 [(0, .d (Bf xs)),(1, .d (Bf ts)),(7, .d (Bf xs)),(8, .d (.int .i64 0))] H (by omega) ⟨rfl,rfl,rfl,rfl,rfl⟩).out
   have hal:=Bby xs ts
   generalize Ms xs ts=A at*
   have w:IntKind.i64.wrap ((A.length:Int) - (xs.length:Int))=(A.length:Int) - (xs.length:Int):=IntWalk.i64_in _ (by omega)
   by_cases hl:A.length≤16
   ·have hl': ¬ (16:Int)< (A.length:Int):=by omega
    simp[Cn,-List.getD_eq_getElem?_getD,-List.map_map,f142,p1,p2,p5,p6,he,g0,g7,w,hl,hl',Bf]
   ·have hl': (16:Int)< (A.length:Int):=by omega
    simp[Cn,-List.getD_eq_getElem?_getD,-List.map_map,f142,p1,p2,p5,p6,he,g0,g7,w,hl,hl',Bf]
structure EnSm (e:En):Prop where
 list:e.list.length≤1000000
 scores:e.scores.length≤1000000
 fields:e.fields.length≤1000000
theorem Bv4 (e:En) (h:EnSm e):Be (ev R) 63 [.d (F6 e)]=some (.d (F6 e)):=Bb fun H=>by
 refine Bh (fn:=f63) rfl rfl ?_
 obtain⟨key,till,kind,text,list,scores,fields⟩:=e
 obtain⟨h1,h2,h3⟩:=h
 dsimp only at h1 h2 h3
 have p5:=Bct list h1
 have p6:=Uj list h1
 have r2:scores.length*24≤Cv:=by unfold Cv;omega
 have r3:fields.length*32≤Cv:=by unfold Cv;omega
 simp[Cn,-List.getD_eq_getElem?_getD,-List.map_map,f63,p5,p6,r2,r3,Bf]
theorem B78 (e:En) (h:EnSm e):Be (ev R) 80 [.d (F6 e)]=some (.d (.bool (decide (e.kind≠1) &&decide (e.text=[]) &&decide (e.list.length+e.scores.length+e.fields.length=0)))):=Bb fun H=>by
 refine Bh (fn:=f80) rfl rfl ?_
 obtain⟨h1,h2,h3⟩:=h
 have w1:IntKind.i64.wrap ((e.list.length:Int)+(e.scores.length:Int))=(e.list.length:Int)+(e.scores.length:Int):=IntWalk.i64_in _ (by omega)
 have w2:IntKind.i64.wrap ((e.list.length:Int)+(e.scores.length:Int)+(e.fields.length:Int))=(e.list.length:Int)+(e.scores.length:Int)+(e.fields.length:Int):=IntWalk.i64_in _ (by omega)
 have w3: ((e.list.length:Int)+(e.scores.length:Int)+(e.fields.length:Int)=0)=(e.list.length+e.scores.length+e.fields.length=0):=by
  apply propext;omega
 by_cases a:e.kind=1
 ·simp[Cn,-List.getD_eq_getElem?_getD,-List.map_map,f80,eq_true a]
 ·by_cases b:e.text=[]
  ·generalize hz:e.list.length+e.scores.length+e.fields.length=z at*
   simp[Cn,-List.getD_eq_getElem?_getD,-List.map_map,f80,eq_false a,eq_true b,w1,w2,w3]
  ·simp[Cn,-List.getD_eq_getElem?_getD,-List.map_map,f80,eq_false a,eq_false b]
def Zv (b:Ba) (n:Int) (zs:List En) (H:Hp):Hp:=
 match zs with
 | []=> [.row 0 2 [.d (Dx b)], .row 0 2 [.agg [.d (.int .i64 0), .nils 7]], .row 0 2 [.agg [.d (.int .i64 n), .nils 7]]]
 |z::r=> [.row 0 2 [.d (Dx b)], .row 0 2 [.agg [.d (.int .i64 0), .nils 7]], .row 0 2 [.agg [.d (.int .i64 n), .slc (Bc H+3) r.length 0 (r.length+1)]], .row r.length 7 (((z::r).map F6).map V.d)]
def cpV (b:Ba) (H:Hp):V:=match b.ents with
 | []=> .agg [.d (.int .i64 b.now), .nils 7]
 |z::r=> .agg [.d (.int .i64 b.now), .slc (Bc H) 0 0 (r.length+1)]
def cpB (b:Ba) (H:Hp):Hp:=match b.ents with
 | []=>H
 |z::r=>ap H [.row 0 7 (((z::r).map F6).map V.d)]
theorem Bnt (b:Ba) (hb:b.ents.length≤1000000) (h: ∀e∈b.ents,EnSm e) (H:Hp):ev R 36 [.d (Dx b)] H=some (cpV b H,cpB b H):=by
 refine Bh (fn:=f36) rfl rfl ?_
 obtain⟨o,e',X',he,rfl,rfl,g2,g3⟩:=(Dh (F:=Bq (ev R) R.glob (Bc H) Bg Bc5) (lv:=[1,2,3,4]) b.ents.length
  (fun i e X=>X=ap H (Zv b b.now (b.ents.take i) H)∧e.get 1= .ptr (Bc H) 0 0 0∧e.get 2= .ptr (Bc H+1) 0 0 0∧e.get 3= .ptr (Bc H+2) 0 0 0∧e.get 4= .d (.int .i64 i))
  (fun o e X=>o= .exit 0∧X=ap H (Zv b b.now b.ents H)∧e.get 2= .ptr (Bc H+1) 0 0 0∧e.get 3= .ptr (Bc H+2) 0 0 0)
  (by
   rintro e X ⟨rfl,g1,g2,g3,g4⟩
   rw[List.take_length]
   cases hz:b.ents with
   |nil=>
    have hl:b.ents.length=0:=by rw[hz];rfl
    rw[hl] at g4
    simp[Cn,-List.getD_eq_getElem?_getD,-List.map_map,Bc5,g1,g2,g3,g4,Zv,hl]
   |cons z r=>
    have hl:b.ents.length=r.length+1:=by rw[hz];rfl
    rw[hl] at g4
    simp[Cn,-List.getD_eq_getElem?_getD,-List.map_map,Bc5,g1,g2,g3,g4,Zv,hl])
  (by
   rintro i e X hi ⟨rfl,g1,g2,g3,g4⟩
   have c: (i:Int)< (b.ents.length:Int):=by omega
   have g:=Jk b.ents i hi
   have p:=Bv4 (b.ents.getD i default) (h _ (Gp hi))
   have w1:IntKind.i64.wrap ((i:Int)+1)=((i+1:Nat):Int):=by rw[IntWalk.i64_in _ (by omega)];rfl
   rw[Jv b.ents i default hi]
   have hl: (b.ents.take i).length=i:=by rw[List.length_take];omega
   generalize b.ents.getD i default=x at*
   generalize b.ents.take i=zs at*
   cases zs with
   |nil=>
    obtain rfl:i=0:=by simpa using hl.symm
    have w0:IntKind.i64.wrap 1=1:=by rw[IntWalk.i64_in _ (by omega)]
    simp[Cn,-List.getD_eq_getElem?_getD,-List.map_map,Bc5,g1,g2,g3,g4,c,hi,g,p,w0,Zv,Cv]
   |cons z r=>
    obtain rfl:i=r.length+1:=by simpa using hl.symm
    have rm: (r.length+1+1)*120≤Cv:=by unfold Cv;omega
    have c': (r.length:Int)+1< (b.ents.length:Int):=by omega
    have w0:IntKind.i64.wrap ((r.length:Int)+1+1)=(r.length:Int)+1+1:=IntWalk.i64_in _ (by omega)
    have c0: (0:Int)≤(r.length:Int)+1:=by omega
    have c1: ((r.length:Int)+1).toNat=r.length+1:=by omega
    simp[Cn,-List.getD_eq_getElem?_getD,-List.map_map,Bc5,g1,g2,g3,g4,c',c0,c1,hi,g,p,w0,Zv,rm])
  b.ents.length 0 [(1, .ptr (Bc H) 0 0 0),(2, .ptr (Bc H+1) 0 0 0),(3, .ptr (Bc H+2) 0 0 0),(4, .d (.int .i64 0))] (ap H (Zv b b.now [] H)) (by omega) ⟨rfl,rfl,rfl,rfl,rfl⟩).out
 obtain⟨now,ents⟩:=b
 cases ents with
 |nil=>
  simp only[Zv] at he
  simp[Cn,-List.getD_eq_getElem?_getD,-List.map_map,f36,he,g2,g3,cpV,cpB,Ug]
 |cons z r=>
  simp only[Zv] at he
  simp[Cn,-List.getD_eq_getElem?_getD,-List.map_map,f36,he,g2,g3,cpV,cpB,Ug]
theorem Bxt (b:Ba) (H:Hp):fzV (Bc H) (cpB b H) (cpV b H)=some (.d (Dx b)):=by
 obtain⟨now,ents⟩:=b
 cases ents with
 |nil=>simp[Cn,-List.getD_eq_getElem?_getD,-List.map_map,cpV,cpB,Fx]
 |cons z r=>
  simp[Cn,-List.getD_eq_getElem?_getD,-List.map_map,cpV,cpB]
  rfl
theorem Bwy (b:Ba) (H:Hp):Dl (cpB b H) (Bc H)=H:=by
 obtain⟨now,ents⟩:=b
 cases ents with
 |nil=>simp[Cn,-List.getD_eq_getElem?_getD,-List.map_map,cpB]
 |cons z r=>simp[Cn,-List.getD_eq_getElem?_getD,-List.map_map,cpB]
structure BaSm (b:Ba):Prop where
 len:b.ents.length≤1000000
 each: ∀e∈b.ents,EnSm e
theorem Mk {es:List En} {t:Bp} (h:Jz es t=true):J2 es t<es.length:=by
 unfold Jz at h
 rw[Bool.and_eq_true,decide_eq_true_eq] at h
 exact h.1
def Ca (b:Ba) (t:Bp):En:=if Jz b.ents t=true then b.ents.getD (J2 b.ents t) default else⟨t,0,0,[],[],[],[]⟩
theorem G9 (b:Ba) (t:Bp) (hb:BaSm b):Be (ev R) 47 [.d (Dx b), .d (.str t)]=some (.d (F6 (Ca b t))):=Bb fun H=>by
 refine Bh (fn:=f47) rfl rfl ?_
 have p1:=Bru b t hb.len
 have hl:=Mk (es:=b.ents) (t:=t)
 unfold Ca
 cases h:Jz b.ents t with
 |false=>
  rw[h] at p1
  simp[Cn,-List.getD_eq_getElem?_getD,-List.map_map,f47,p1]
 |true=>
  rw[h] at p1
  have hl:=hl h
  have c: (J2 b.ents t:Int)< (b.ents.length:Int):=by omega
  have c0: (0:Int)≤(J2 b.ents t:Int):=by omega
  have g:=Jk b.ents (J2 b.ents t) hl
  have p2:=Bv4 (b.ents.getD (J2 b.ents t) default) (hb.each _ (Gp hl))
  simp[Cn,-List.getD_eq_getElem?_getD,-List.map_map,f47,p1,hl,c,c0,g,p2]
def Dn (b:Ba) (t:Bp):Ba:=if Jz b.ents t=true then⟨b.now,G6 b.ents (J2 b.ents t)⟩ else b
theorem Bol (b:Ba) (t:Bp) (hb:BaSm b):Be (ev R) 46 [.d (Dx b), .d (.str t)]=some (.d (Dx (Dn b t))):=Bb fun H=>by
 refine Bh (fn:=f46) rfl rfl ?_
 have p0:=Bnt b hb.len hb.each
 have z0:=Bxt b
 have t0:=Bwy b
 have p1:=Bru b t hb.len
 have hl:=Mk (es:=b.ents) (t:=t)
 have hbl:=hb.len
 unfold Dn
 cases h:Jz b.ents t with
 |false=>
  rw[h] at p1
  simp[Cn,-List.getD_eq_getElem?_getD,-List.map_map,f46,p0, ↓z0, ↓t0,p1]
 |true=>
  rw[h] at p1
  have hl:=hl h
  obtain⟨now,ents⟩:=b
  dsimp only at*
  generalize J2 ents t=k at*
  have hk:k≤ents.length:=by omega
  have hk': (k:Int)≤(ents.length:Int):=by omega
  have hk0: (0:Int)≤(k:Int):=by omega
  have w1:IntKind.i64.wrap ((k:Int)+1)=((k+1:Nat):Int):=by rw[IntWalk.i64_in _ (by omega)];rfl
  have hk1: (k:Int)+1≤(ents.length:Int):=by omega
  have hk2:k+1≤ents.length:=by omega
  have hk3: (0:Int)≤(k:Int)+1:=by omega
  have hk4: ((k:Int)+1).toNat=k+1:=by omega
  have r1:k*120≤Cv:=by unfold Cv;omega
  have r3: (k+(ents.length - (k+1)))*120≤Cv:=by unfold Cv;omega
  have mn:min k ents.length=k:=by omega
  have f1:=Wm F6 ents k
  have f2:=Bf0 F6 ents k hl
  have f3:=Bqt ents k hl
  simp[Cn,-List.getD_eq_getElem?_getD,-List.map_map,f46,p0, ↓z0, ↓t0,p1,Dp,hl,hk,hk',hk0,w1,hk1,hk2,hk3,hk4,r1,r3,mn,f1,f2,f3]
def Qx (e:En):Bool:=decide (e.kind≠1) &&decide (e.text=[]) &&decide (e.list.length+e.scores.length+e.fields.length=0)
def Ny (b:Ba) (e:En):Bool:=Gn e&& !(decide (e.till≠0) &&decide (e.till≤b.now)) &&decide ((Dn b e.key).ents.length<12)
def Pd (b:Ba) (e:En):Ba×Bool:=
 if Qx e=true then(Dn b e.key,true)
 else if Ny b e=true then(⟨b.now,D6 (Dn b e.key).ents (J2 (Dn b e.key).ents e.key) e⟩,true)
 else(b,false)
theorem Pb (b:Ba) (t:Bp): (Dn b t).now=b.now:=by unfold Dn;split<;>rfl
theorem Bb0 {b:Ba} {t:Bp} {e:En} (h:e∈(Dn b t).ents):e∈b.ents:=by
 unfold Dn at h
 split at h
 ·simp only[G6,List.mem_append] at h
  rcases h with h|h
  ·exact List.mem_of_mem_take h
  ·exact List.mem_of_mem_drop h
 ·exact h
theorem Sl (b:Ba) (t:Bp): (Dn b t).ents.length≤b.ents.length:=by
 unfold Dn
 split
 ·rename_i h
  have:=Mk h
  simp only[Qg _ _ this];omega
 ·exact Nat.le_refl _
theorem Bv7 {b:Ba} (hb:BaSm b) (t:Bp):BaSm (Dn b t):=⟨Nat.le_trans (Sl b t) hb.len,fun e he=>hb.each e (Bb0 he)⟩
theorem Bzq (b:Ba) (e:En) (hb:BaSm b) (he:EnSm e) (hf:EnFit e):Be (ev R) 52 [.d (Dx b), .d (F6 e)]=some (.tup [.d (Dx (Pd b e).1), .d (.bool (Pd b e).2)]):=Bb fun H=>by
 refine Bh (fn:=f52) rfl rfl ?_
 have p0:=Bnt b hb.len hb.each
 have z0:=Bxt b
 have t0:=Bwy b
 have p1:=Bol b e.key hb
 have p2:Be (ev R) 80 [.d (F6 e)]=some (.d (.bool (Qx e))):=B78 e he
 have p3:=Bb (cl:=ev R) fun H=>B01 H e hf
 have p4:=Bru (Dn b e.key) e.key (Bv7 hb e.key).len
 have p5:=Bv4 e he
 have hn:=Pb b e.key
 have hdl:=Sl b e.key
 have hbl:=hb.len
 unfold Pd
 cases h1:Qx e with
 |true=>
  rw[h1] at p2
  simp[Cn,-List.getD_eq_getElem?_getD,-List.map_map,f52,p1,p2]
 |false=>
  rw[h1] at p2
  unfold Ny
  cases h2:Gn e with
  |false=>
   rw[h2] at p3
   simp[Cn,-List.getD_eq_getElem?_getD,-List.map_map,f52,p0, ↓z0, ↓t0,p1,p2,p3]
  |true=>
   rw[h2] at p3
   by_cases h3:e.till≠0∧e.till≤b.now
   ·have h30: (e.till=0)=False:=eq_false h3.1
    have h31: (e.till≤b.now)=True:=eq_true h3.2
    simp[Cn,-List.getD_eq_getElem?_getD,-List.map_map,f52,p0, ↓z0, ↓t0,p1,p2,p3,h30,h31]
   ·by_cases h4: (Dn b e.key).ents.length<12
    ·have h4': ((Dn b e.key).ents.length:Int)<12:=by omega
     have h4'': ¬ (12:Int)≤((Dn b e.key).ents.length:Int):=by omega
     have hk:=Bjt (Dn b e.key).ents e.key
     generalize Dn b e.key=C at*
     obtain⟨now,ents⟩:=C
     dsimp only at*
     subst hn
     generalize J2 ents e.key=k at*
     have hk': (k:Int)≤(ents.length:Int):=by omega
     have hk0: (0:Int)≤(k:Int):=by omega
     have r1:k*120≤Cv:=by unfold Cv;omega
     have r2: (k+1)*120≤Cv:=by unfold Cv;omega
     have r3: (k+1+(ents.length - k))*120≤Cv:=by unfold Cv;omega
     have mn:min k ents.length=k:=by omega
     have f1:=Wu F6 ents k e
     have f2:=Wv F6 ents k e hk
     have f3:=Bev ents k e hk
     by_cases h5:e.till=0
     ·simp[Cn,-List.getD_eq_getElem?_getD,-List.map_map,f52,p0, ↓z0, ↓t0,p1,p2,p3,p4,p5,eq_true h5,h4,h4',h4'',Dp,hk,hk',hk0,r1,r2,r3,mn,f1,f2,f3]
     ·have h6: (e.till≤b.now)=False:=eq_false (fun h=>h3 ⟨h5,h⟩)
      simp[Cn,-List.getD_eq_getElem?_getD,-List.map_map,f52,p0, ↓z0, ↓t0,p1,p2,p3,p4,p5,eq_false h5,h6,h4,h4',h4'',Dp,hk,hk',hk0,r1,r2,r3,mn,f1,f2,f3]
    ·have h4': ¬ ((Dn b e.key).ents.length:Int)<12:=by omega
     have h4'': (12:Int)≤((Dn b e.key).ents.length:Int):=by omega
     by_cases h5:e.till=0
     ·simp[Cn,-List.getD_eq_getElem?_getD,-List.map_map,f52,p0, ↓z0, ↓t0,p1,p2,p3,eq_true h5,h4,h4',h4'']
     ·have h6: (e.till≤b.now)=False:=eq_false (fun h=>h3 ⟨h5,h⟩)
      simp[Cn,-List.getD_eq_getElem?_getD,-List.map_map,f52,p0, ↓z0, ↓t0,p1,p2,p3,eq_false h5,h6,h4,h4',h4'']
end Go.Proofs.YtjdmiodinhlchaaGreat.Code

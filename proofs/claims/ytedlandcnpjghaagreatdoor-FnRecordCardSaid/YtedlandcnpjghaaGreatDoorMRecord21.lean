/- Lemmas (several texts in one). -/
import Derived.Test.YtedlandcnpjghaaGreatDoorMRecord7
import Derived.Test.YtedlandcnpjghaaGreatDoorMRecord19
import Derived.Test.YtedlandcnpjghaaGreatDoorMRecord20
set_option maxRecDepth 100000
set_option linter.unusedSimpArgs false
set_option linter.unusedVariables false
namespace Go.Proofs.YtedlandcnpjghaaGreatDoor.Code
open Go Go.Ev Go.Proofs
theorem Bcg (xs:List Bl) (hx:xs.length≤9223372036854775807):Be (ev R) 113 [.d (Bf xs)]=some (.d (.bool (Dc xs))):=Bb fun H=>Xj H xs hx
theorem Bx7 (xs:List Bl) (hx:xs.length≤1000000):Be (ev R) 127 [.d (Bf xs)]=some (.d (Bf xs.reverse)):=Bb fun H=>by
 refine Bo (fn:=f127) rfl rfl ?_
 have hyl:xs.reverse.length=xs.length:=List.length_reverse
 have hyg: ∀i,i<xs.length→xs.reverse.getD i []=xs.getD (xs.length - 1 - i) []:=fun i hi=>by
  rw[List.getD_eq_getElem?_getD,List.getElem?_reverse (by omega),←List.getD_eq_getElem?_getD]
 generalize xs.reverse=ys at*
 obtain⟨o,e',X',he,rfl,rfl,g3⟩:=(Dw (F:=Bp (ev R) R.glob (Bc H) Bg Bfi) (lv:=[0,3,4]) xs.length
  (fun i e X=> ∃zs,zs=ys.take i∧zs.length=i∧X=ap H [.row zs.length 1 ((zs.map D.str).map V.d)]∧e.get 0= .d (Bf xs)∧e.get 3= .slc (Bc H) zs.length 0 zs.length∧e.get 4= .d (.int .i64 ((xs.length:Int) - 1 - i)))
  (fun o e X=>o= .exit 0∧X=ap H [.row xs.length 1 ((ys.map D.str).map V.d)]∧e.get 3= .slc (Bc H) xs.length 0 xs.length)
  (by
   rintro e X ⟨zs,hz,hl,rfl,g0,g3,g4⟩
   have h1:zs=ys:=by rw[hz];exact List.take_of_length_le (by omega)
   subst h1
   have c: ¬ (xs.length:Int)≤(xs.length:Int) - 1:=by omega
   rw[hyl] at g3
   simp[Co,-List.getD_eq_getElem?_getD,-List.map_map,Bfi,g0,g3,g4,c,hyl,Bf])
  (by
   rintro i e X hi ⟨zs,hz,hl,rfl,g0,g3,g4⟩
   have c: (0:Int)≤(xs.length:Int) - 1 - (i:Int):=by omega
   obtain⟨k,hk⟩: ∃k:Nat,(k:Int)=(xs.length:Int) - 1 - (i:Int):=⟨xs.length - 1 - i,by omega⟩
   have hkl:k<xs.length:=by omega
   have c0: (0:Int)≤(k:Int):=by omega
   have c1: (k:Int)< (xs.length:Int):=by omega
   have g:=Dt xs k hkl
   have w1:IntKind.i64.wrap ((k:Int) - 1)=(xs.length:Int) - 1 - ((i:Int)+1):=by rw[IntWalk.i64_in _ (by omega)];omega
   rw[←hk] at g4
   have r: (i+1)*16≤Cx:=by unfold Cx;omega
   have hn:ys.take (i+1)=zs++[xs.getD k []]:=by
    have:xs.length - 1 - i=k:=by omega
    rw[Kv ys i [] (by omega),←hz,hyg i hi,this]
   simp[Co,-List.getD_eq_getElem?_getD,-List.map_map,Bfi,g0,g3,g4,c0,c1,hkl,g,w1,r,hn,hl,Bf])
  xs.length 0 [(0, .d (Bf xs)),(3, .slc (Bc H) 0 0 0),(4, .d (.int .i64 ((xs.length:Int) - 1)))] (ap H [.row 0 1 []]) (by omega) ⟨[],by simp,rfl,rfl,rfl,rfl,by show V.d (D.int IntKind.i64 ((xs.length:Int) - 1))=_;simp⟩).out
 have w:IntKind.i64.wrap ((xs.length:Int) - 1)=(xs.length:Int) - 1:=IntWalk.i64_in _ (by omega)
 have ft:List.take xs.length ((ys.map D.str).map V.d)=(ys.map D.str).map V.d:=List.take_of_length_le (by simp;omega)
 simp[Co,-List.getD_eq_getElem?_getD,-List.map_map,f127,he,g3,w,ft,hyl,Bf]
def Te (xs:List Bl) (f t:Int):List Bl:=((xs.take (Jz xs.length f t).2.toNat).drop (Jz xs.length f t).1.toNat)
def Js (n:Int):Bool:=decide (-1000000000≤n) &&decide (n≤1000000000)
theorem Bbj (n:Nat) (f t:Int):0≤(Jz n f t).1∧(Jz n f t).1≤(Jz n f t).2∧(Jz n f t).2≤n:=by
 unfold Jz
 dsimp only
 repeat' split
 all_goals dsimp only
 all_goals omega
theorem B6c (xs:List Bl) (f t:Int) (hx:xs.length≤1000000):Be (ev R) 93 [.d (Bf xs), .d (.int .i64 f), .d (.int .i64 t)]=
  some (.d (Bf (if Dc xs=true∧Js f=true∧Js t=true then Te xs f t else[]))):=Bb fun H=>by
 refine Bo (fn:=f93) rfl rfl ?_
 have p1:=Bcg xs (by omega)
 have p2:Be (ev R) 126 [.d (.int .i64 f)]=some (.d (.bool (Js f))):=Bei f
 have p3:Be (ev R) 126 [.d (.int .i64 t)]=some (.d (.bool (Js t))):=Bei t
 cases h1:Dc xs with
 |false=>rw[h1] at p1;simp[Co,-List.getD_eq_getElem?_getD,-List.map_map,f93,p1,Bf]
 |true=>
  cases h2:Js f with
  |false=>rw[h1] at p1;rw[h2] at p2;simp[Co,-List.getD_eq_getElem?_getD,-List.map_map,f93,p1,p2,Bf]
  |true=>
   cases h3:Js t with
   |false=>rw[h1] at p1;rw[h2] at p2;rw[h3] at p3;simp[Co,-List.getD_eq_getElem?_getD,-List.map_map,f93,p1,p2,p3,Bf]
   |true=>
    rw[h1] at p1;rw[h2] at p2;rw[h3] at p3
    unfold Js at h2 h3
    simp only[Bool.and_eq_true,decide_eq_true_eq] at h2 h3
    have p4:=By4 xs.length f t (by omega) h2 h3
    obtain⟨b1,b2,b3⟩:=Bbj xs.length f t
    have hr:Te xs f t=((xs.take (Jz xs.length f t).2.toNat).drop (Jz xs.length f t).1.toNat):=rfl
    generalize(Jz xs.length f t).1=a at*
    generalize(Jz xs.length f t).2=b at*
    obtain⟨A,rfl⟩: ∃A:Nat,a=(A:Int):=⟨a.toNat,by omega⟩
    obtain⟨B,rfl⟩: ∃B:Nat,b=(B:Int):=⟨b.toNat,by omega⟩
    simp only[Int.toNat_natCast] at hr
    have b5:A≤B:=by omega
    have b6:B≤xs.length:=by omega
    have hd:List.drop A (List.take B (List.map D.str xs))=(Te xs f t).map D.str:=by rw[hr];simp only[List.map_drop,List.map_take]
    have hl: (Te xs f t).length≤1000000:=by rw[hr];simp only[List.length_drop,List.length_take];omega
    have p5:=Bc9 (Te xs f t) hl
    have p6:=Uz (Te xs f t) hl
    simp[Co,-List.getD_eq_getElem?_getD,-List.map_map,f93,p1,p2,p3,p4,De,b1,b2,b3,b5,b6,hd,p5,p6,Bf]
theorem B59 (xs:List Bl) (f:Bool) (hx:xs.length≤1000000):Be (ev R) 90 [.d (Bf xs), .d (.bool f)]=
  some (if Dc xs=true∧0<xs.length then(if f=true then .tup [.d (Bf xs.tail), .d (.str (xs.getD 0 [])), .d (.bool true)] else .tup [.d (Bf (xs.take (xs.length - 1))), .d (.str (xs.getD (xs.length - 1) [])), .d (.bool true)]) else .tup [.d (Bf []), .d (.str []), .d (.bool false)]):=Bb fun H=>by
 refine Bo (fn:=f90) rfl rfl ?_
 have p1:=Bcg xs (by omega)
 cases h1:Dc xs with
 |false=>rw[h1] at p1;simp[Co,-List.getD_eq_getElem?_getD,-List.map_map,f90,p1,Bf]
 |true=>
  rw[h1] at p1
  by_cases h0:0<xs.length
  ·have h0': ¬ (xs.length:Int)=0:=by omega
   have h0'': (0:Int)< (xs.length:Int):=by omega
   have h1': (1:Int)≤(xs.length:Int):=by omega
   have h1'':1≤xs.length:=by omega
   have hne: ¬xs.length=0:=by omega
   cases f with
   |true=>
    have p5:=Bc9 xs.tail (by simp;omega)
    have p6:=Uz xs.tail (by simp;omega)
    simp only[Bf,List.map_tail] at p5 p6
    have g:=Dt xs 0 h0
    simp[Co,-List.getD_eq_getElem?_getD,-List.map_map,f90,p1,h0,h0',h0'',h1',h1'',eq_false hne,g,De,p5,p6,Bf]
   |false=>
    obtain⟨k,hk⟩: ∃k:Nat,xs.length=k+1:=⟨xs.length - 1,by omega⟩
    have w:IntKind.i64.wrap ((xs.length:Int) - 1)=(k:Int):=by rw[IntWalk.i64_in _ (by omega)];omega
    have hk1:xs.length - 1=k:=by omega
    have c1: (k:Int)≤(xs.length:Int):=by omega
    have c2: (k:Int)< (xs.length:Int):=by omega
    have c3:k≤xs.length:=by omega
    have c4: (0:Int)≤(k:Int):=by omega
    have c5:k<xs.length:=by omega
    have p5:=Bc9 (xs.take k) (by simp;omega)
    have p6:=Uz (xs.take k) (by simp;omega)
    simp only[Bf,List.map_take] at p5 p6
    have g:=Dt xs k (by omega)
    rw[hk1]
    simp[Co,-List.getD_eq_getElem?_getD,-List.map_map,f90,p1,h0,h0',h0'',h1',h1'',eq_false hne,g,w,c1,c2,c3,c4,c5,De,p5,p6,Bf]
  ·have h0': (xs.length:Int)=0:=by omega
   have h00:xs.length=0:=by omega
   simp[Co,-List.getD_eq_getElem?_getD,-List.map_map,f90,p1,eq_true h0',eq_true h00,h0,Bf]
theorem Bbc {Y l H:Hp} (h:Du Y (Bc H)=H) (hle:Bc H≤Bc Y):Du (ap Y l) (Bc H)=H:=by
 have:Du (ap Y l) (Bc H)=Du Y (Bc H):=by
  simp only[ap,Du,Bc] at*
  exact List.take_append_of_le_length hle
 rw[this,h]
theorem Byw {H X:Hp} {r g e:Nat} {ds:List D} {k:Nat} (hr:Ct X r g=some (e,ds.map V.d)) (hk:k=ds.length) (hle:Bc H≤r):Wx (Bc H) X (.slc r g 0 k)=some (.d (.vals e ds)):=by
 subst hk
 have h: ((ds.map V.d).drop 0).take ds.length=ds.map V.d:=by rw[List.drop_zero,List.take_of_length_le (by simp)]
 have:=Sm (H:=X) (n:=Bc H) (d:=7) (r:=r) (g:=g) (i:=0) (k:=ds.length) (by omega) hr (by simp) (by rw[h];exact Wi _)
 show(if r<Bc H then _ else(match fz (Bc H) Qd _ (.slc r g 0 ds.length) with|some x=>some (V.d x) |none=>none))=_
 rw[if_neg (by omega)]
 show(match fz (Bc H) (7+1) _ (.slc r g 0 ds.length) with|some x=>some (V.d x) |none=>none)=_
 rw[this]
def Bif (xs:List Bl) (f:Bool) (ts:List Bl):List Bl:=if f=true then ts.reverse++xs else xs++ts
theorem By2 (xs ts:List Bl) (hx:xs.length≤1000000) (ht:ts.length≤1000000):Be (ev R) 125 [.d (Bf xs), .d (.bool false), .d (Bf ts)]=some (.d (Bf (xs++ts))):=Bb fun H=>by
 refine Bo (fn:=f125) rfl rfl ?_
 have q:=fun H=>Bq0 H xs hx
 obtain⟨o,e',X',he,zs,hz,rfl,rfl,g7⟩:=(Dw (F:=Bp (ev R) R.glob (Bc H) Bg Qh) (lv:=[1,2,7,8]) ts.length
  (fun i e X=> ∃zs,zs=xs++ts.take i∧zs.length=xs.length+i∧X=ap H [.row i 1 ((zs.map D.str).map V.d)]∧e.get 1= .d (.bool false)∧e.get 2= .d (Bf ts)∧e.get 7= .slc (Bc H) i 0 zs.length∧e.get 8= .d (.int .i64 i))
  (fun o e X=> ∃zs,zs=xs++ts∧o= .exit 0∧X=ap H [.row ts.length 1 ((zs.map D.str).map V.d)]∧e.get 7= .slc (Bc H) ts.length 0 zs.length)
  (by
   rintro e X ⟨zs,hz,hl,rfl,g1,g2,g7,g8⟩
   rw[List.take_length] at hz
   simp[Co,-List.getD_eq_getElem?_getD,-List.map_map,Qh,g1,g2,g7,g8,Bf]
   subst hz
   simp)
  (by
   rintro i e X hi ⟨zs,hz,hl,rfl,g1,g2,g7,g8⟩
   have c: (i:Int)< (ts.length:Int):=by omega
   have g:=Dt ts i hi
   have w1:IntKind.i64.wrap ((i:Int)+1)=((i+1:Nat):Int):=by rw[IntWalk.i64_in _ (by omega)];rfl
   have r: (zs.length+1)*16≤Cx:=by unfold Cx;omega
   have hn:zs++[ts.getD i []]=xs++ts.take (i+1):=by rw[Kv ts i [] hi,hz,List.append_assoc]
   have hl':zs.length+1=xs.length+(i+1):=by omega
   have key:Bp (ev R) R.glob (Bc H) Bg Qh ⟨e.keep [1,2,7,8],ap H [.row i 1 ((zs.map D.str).map V.d)]⟩=some (.normal,⟨[(8, .d (.int .i64 ((i+1:Nat):Int))),(16, .d (.int .i64 ((i+1:Nat):Int))),(15, .d (.int .i64 i)),(1, .d (.bool false)),(2, .d (Bf ts)),(7, .slc (Bc H) (i+1) 0 (zs.length+1)),(8, .d (.int .i64 i))],ap H [.row (i+1) 1 (((zs++[ts.getD i []]).map D.str).map V.d)]⟩):=by
    simp[Co,-List.getD_eq_getElem?_getD,-List.map_map,Qh,g1,g2,g7,g8,c,hi,g,w1,r,Bf]
   rw[key]
   exact⟨_,hn,by simp[hl];omega,rfl,rfl,rfl,by simp[Env.get];rfl,rfl⟩)
  ts.length 0 [(1, .d (.bool false)),(2, .d (Bf ts)),(7, .slc (Bc H) 0 0 xs.length),(8, .d (.int .i64 0))] (ap H [.row 0 1 ((xs.map D.str).map V.d)]) (by omega) ⟨xs,by simp,rfl,rfl,rfl,rfl,rfl,rfl⟩).out
 have ft:List.take zs.length ((zs.map D.str).map V.d)=(zs.map D.str).map V.d:=List.take_of_length_le (by simp)
 rw[←hz]
 simp[Co,-List.getD_eq_getElem?_getD,-List.map_map,f125,q,he,g7,ft,Bf]
theorem By3 (xs ts:List Bl) (hx:xs.length≤1000000) (ht:ts.length≤1000000):Be (ev R) 125 [.d (Bf xs), .d (.bool true), .d (Bf ts)]=some (.d (Bf (ts.reverse++xs))):=Bb fun H=>by
 refine Bo (fn:=f125) rfl rfl ?_
 have q:=fun H=>Bq0 H xs hx
 obtain⟨o,e',X',he,zs,Y,g,hz,rfl,rfl,tk,hle,g7⟩:=(Dw (F:=Bp (ev R) R.glob (Bc H) Bg Qh) (lv:=[1,2,7,8]) ts.length
  (fun i e X=> ∃zs Y g,zs=(ts.take i).reverse++xs∧zs.length=xs.length+i∧X=ap Y [.row g 1 ((zs.map D.str).map V.d)]∧Du Y (Bc H)=H∧Bc H≤Bc Y∧e.get 1= .d (.bool true)∧e.get 2= .d (Bf ts)∧e.get 7= .slc (Bc Y) g 0 zs.length∧e.get 8= .d (.int .i64 i))
  (fun o e X=> ∃zs Y g,zs=ts.reverse++xs∧o= .exit 0∧X=ap Y [.row g 1 ((zs.map D.str).map V.d)]∧Du Y (Bc H)=H∧Bc H≤Bc Y∧e.get 7= .slc (Bc Y) g 0 zs.length)
  (by
   rintro e X ⟨zs,Y,g,hz,hl,rfl,tk,hle,g1,g2,g7,g8⟩
   rw[List.take_length] at hz
   have key:Bp (ev R) R.glob (Bc H) Bg Qh ⟨e.keep [1,2,7,8],ap Y [.row g 1 ((zs.map D.str).map V.d)]⟩=some (.exit 0,⟨[(1, .d (.bool true)),(2, .d (Bf ts)),(7, .slc (Bc Y) g 0 zs.length),(8, .d (.int .i64 ts.length)),(14, .d (.bool false))],ap Y [.row g 1 ((zs.map D.str).map V.d)]⟩):=by
    simp[Co,-List.getD_eq_getElem?_getD,-List.map_map,Qh,g1,g2,g7,g8,Bf]
   rw[key]
   exact⟨by simp,zs,Y,g,hz,rfl,rfl,tk,hle,rfl⟩)
  (by
   rintro i e X hi ⟨zs,Y,g0,hz,hl,rfl,tk,hle,g1,g2,g7,g8⟩
   have c: (i:Int)< (ts.length:Int):=by omega
   have g:=Dt ts i hi
   have w1:IntKind.i64.wrap ((i:Int)+1)=((i+1:Nat):Int):=by rw[IntWalk.i64_in _ (by omega)];rfl
   have r: (1+zs.length)*16≤Cx:=by unfold Cx;omega
   have hn:ts.getD i []::zs=(ts.take (i+1)).reverse++xs:=by rw[Kv ts i [] hi,hz,List.reverse_append];rfl
   have ft:List.take zs.length ((zs.map D.str).map V.d)=(zs.map D.str).map V.d:=List.take_of_length_le (by simp)
   have ft':List.take zs.length (zs.map D.str)=zs.map D.str:=List.take_of_length_le (by simp)
   have key:Bp (ev R) R.glob (Bc H) Bg Qh ⟨e.keep [1,2,7,8],ap Y [.row g0 1 ((zs.map D.str).map V.d)]⟩=some (.normal,⟨[(8, .d (.int .i64 ((i+1:Nat):Int))),(16, .d (.int .i64 ((i+1:Nat):Int))),(15, .d (.int .i64 i)),(1, .d (.bool true)),(2, .d (Bf ts)),(7, .slc (Bc Y+1) 1 0 (1+zs.length)),(8, .d (.int .i64 i))],ap Y [.row g0 1 ((zs.map D.str).map V.d), .row 1 1 (((ts.getD i []::zs).map D.str).map V.d)]⟩):=by
    simp[Co,-List.getD_eq_getElem?_getD,-List.map_map,Qh,g1,g2,g7,g8,c,hi,g,w1,r,ft,ft',Bf]
   rw[key]
   refine⟨_,ap Y [.row g0 1 ((zs.map D.str).map V.d)],1,hn,by simp;omega,by rw[Bqj];rfl, ?_, ?_,rfl,rfl, ?_,rfl⟩
   ·exact Bbc tk hle
   ·rw[Be5];omega
   ·rw[Be5,List.length_cons (a:=ts.getD i []),Nat.add_comm zs.length 1];rfl)
  ts.length 0 [(1, .d (.bool true)),(2, .d (Bf ts)),(7, .slc (Bc H) 0 0 xs.length),(8, .d (.int .i64 0))] (ap H [.row 0 1 ((xs.map D.str).map V.d)]) (by omega) ⟨xs,H,0,by simp,rfl,rfl,Lc H,Nat.le_refl _,rfl,rfl,rfl,rfl⟩).out
 have ft:List.take zs.length ((zs.map D.str).map V.d)=(zs.map D.str).map V.d:=List.take_of_length_le (by simp)
 have tk2: ∀l,Du (ap Y l) (Bc H)=H:=fun l=>Bbc tk hle
 have b1:Nat.blt (Bc Y) (Bc H)=false:=by
  cases h:Nat.blt (Bc Y) (Bc H) with
  |false=>rfl
  |true=>simp at h;omega
 have b2: ¬Bc Y<Bc H:=by omega
 have fz:=Byw (H:=H) (X:=ap Y [.row g 1 ((zs.map D.str).map V.d)]) (r:=Bc Y) (g:=g) (e:=1) (ds:=zs.map D.str) (k:=zs.length) (by simp[Ct,Be4,Ci]) (by simp) hle
 rw[←hz]
 simp[Co,-List.getD_eq_getElem?_getD,-List.map_map,f125,q,he,g7,ft,tk2,b1,b2,fz,Bf]
theorem B2l (xs:List Bl) (f:Bool) (ts:List Bl) (hx:xs.length≤1000000) (ht:ts.length≤1000000):Be (ev R) 125 [.d (Bf xs), .d (.bool f), .d (Bf ts)]=some (.d (Bf (Bif xs f ts))):=by
 cases f with
 |false=>exact By2 xs ts hx ht
 |true=>exact By3 xs ts hx ht
theorem Bkl {xs:List Bl} (h:Dc xs=true):xs.length≤16:=by
 unfold Dc at h
 rw[Bool.and_eq_true,decide_eq_true_eq] at h
 exact h.2
theorem B58 (xs:List Bl) (f:Bool) (ts:List Bl) (hx:xs.length≤1000000) (ht:ts.length≤1000000):Be (ev R) 89 [.d (Bf xs), .d (.bool f), .d (Bf ts)]=
  some (if Dc xs=true then(if Dc ts=true∧xs.length+ts.length≤16 then .tup [.d (Bf (Bif xs f ts)), .d (.bool true)] else .tup [.d (Bf xs), .d (.bool false)]) else .tup [.d (Bf []), .d (.bool false)]):=Bb fun H=>by
 refine Bo (fn:=f89) rfl rfl ?_
 have p1:=Bcg xs (by omega)
 have p2:=Bcg ts (by omega)
 have p3:=B2l xs f ts hx ht
 have p5:=Bc9 xs hx
 have p6:=Uz xs hx
 have w:IntKind.i64.wrap ((xs.length:Int)+(ts.length:Int))=(xs.length:Int)+(ts.length:Int):=IntWalk.i64_in _ (by omega)
 cases h1:Dc xs with
 |false=>rw[h1] at p1;simp[Co,-List.getD_eq_getElem?_getD,-List.map_map,f89,p1,Bf]
 |true=>
  rw[h1] at p1
  cases h2:Dc ts with
  |false=>rw[h2] at p2;simp[Co,-List.getD_eq_getElem?_getD,-List.map_map,f89,p1,p2,p5,p6,Bf]
  |true=>
   rw[h2] at p2
   by_cases hl:xs.length+ts.length≤16
   ·have hl': ¬ (16:Int)< (xs.length:Int)+(ts.length:Int):=by omega
    simp[Co,-List.getD_eq_getElem?_getD,-List.map_map,f89,p1,p2,p3,w,hl,hl',Bf]
   ·have hl': (16:Int)< (xs.length:Int)+(ts.length:Int):=by omega
    simp[Co,-List.getD_eq_getElem?_getD,-List.map_map,f89,p1,p2,p5,p6,w,hl,hl',Bf]
def Lj (n:Nat) (k:Int):Int:=if k<0 then k+n else k
def Bao (xs:List Bl) (at':Int) (t:Bl):Option (List Bl):=
 if Js at'=true∧t.length≤40∧0≤Lj xs.length at'∧Lj xs.length at'≤(xs.length:Int) - 1 then some (xs.set (Lj xs.length at').toNat t) else none
theorem B6a (xs:List Bl) (k:Int) (t:Bl) (hx:xs.length≤1000000) (hk:Bqe k):Be (ev R) 91 [.d (Bf xs), .d (.int .i64 k), .d (.str t)]=
  some (if Dc xs=true then(match Bao xs k t with|some ys=> .tup [.d (Bf ys), .d (.bool true)] |none=> .tup [.d (Bf xs), .d (.bool false)]) else .tup [.d (Bf []), .d (.bool false)]):=Bb fun H=>by
 refine Bo (fn:=f91) rfl rfl ?_
 have p1:=Bcg xs (by omega)
 have q:=fun H=>Bq0 H xs hx
 have p2:Be (ev R) 126 [.d (.int .i64 k)]=some (.d (.bool (Js k))):=Bei k
 have ft:List.take xs.length ((xs.map D.str).map V.d)=(xs.map D.str).map V.d:=List.take_of_length_le (by simp)
 cases h1:Dc xs with
 |false=>rw[h1] at p1;simp[Co,-List.getD_eq_getElem?_getD,-List.map_map,f91,p1,Bf]
 |true=>
  rw[h1] at p1
  cases h2:Js k with
  |false=>
   rw[h2] at p2
   have hr:Bao xs k t=none:=by unfold Bao;rw[h2];simp
   simp[Co,-List.getD_eq_getElem?_getD,-List.map_map,f91,p1,p2,q,hr,ft,Bf]
  |true=>
   rw[h2] at p2
   by_cases ht:t.length≤40
   ·have ht': ¬ (40:Int)< (t.length:Int):=by omega
    have h2':=h2
    unfold Js at h2'
    simp only[Bool.and_eq_true,decide_eq_true_eq] at h2'
    have w1:IntKind.i64.wrap (k+(xs.length:Int))=k+(xs.length:Int):=IntWalk.i64_in _ (by omega)
    have w2:IntKind.i64.wrap ((xs.length:Int) - 1)=(xs.length:Int) - 1:=IntWalk.i64_in _ (by omega)
    have p3:=Pi (Lj xs.length k) 0 ((xs.length:Int) - 1)
    have fe:Lj xs.length k=if k<0 then k+xs.length else k:=rfl
    by_cases hin:0≤Lj xs.length k∧Lj xs.length k≤(xs.length:Int) - 1
    ·obtain⟨j,hj⟩: ∃j:Nat,Lj xs.length k=(j:Int):=⟨(Lj xs.length k).toNat,by omega⟩
     have hr:Bao xs k t=some (xs.set j t):=by unfold Bao;rw[if_pos ⟨h2,ht,hin.1,hin.2⟩,hj];rfl
     rw[hj] at p3 fe hin
     have hjl:j<xs.length:=by omega
     have hjl': (j:Int)< (xs.length:Int):=by omega
     have hj0: (0:Int)≤(j:Int):=by omega
     have hj1: (j:Int)≤(xs.length:Int) - 1:=by omega
     have w3:IntKind.i64.wrap (j:Int)=(j:Int):=IntWalk.i64_in _ (by omega)
     have hb: (decide ((j:Int)≥0) &&decide ((j:Int)≤(xs.length:Int) - 1))=true:=by rw[Bool.and_eq_true,decide_eq_true_eq,decide_eq_true_eq];exact hin
     rw[hb] at p3
     have hneg: ¬ (j:Int)<0:=by omega
     have sf:=Bcy D.str xs j t
     have f6: (xs.set j t).length=xs.length:=List.length_set
     have f4:List.take xs.length (List.map V.d (List.map D.str (xs.set j t)))=List.map V.d (List.map D.str (xs.set j t)):=List.take_of_length_le (by simp)
     rw[hr]
     dsimp only
     generalize xs.set j t=zs at*
     by_cases hn:k<0
     ·rw[if_pos hn] at fe
      simp[Co,-List.getD_eq_getElem?_getD,-List.map_map,f91,p1,p2,q,ht',hn,w1,w2,w3,←fe,p3,hjl,hjl',hj0,hj1,sf,f6,f4,ft,Bf]
     ·rw[if_neg hn] at fe
      subst fe
      simp[Co,-List.getD_eq_getElem?_getD,-List.map_map,f91,p1,p2,q,ht',hneg,w1,w2,w3,p3,hjl,hjl',hj0,hj1,sf,f6,f4,ft,Bf]
    ·have hr:Bao xs k t=none:=by unfold Bao;rw[if_neg (fun h=>hin ⟨h.2.2.1,h.2.2.2⟩)]
     have hb: (decide (Lj xs.length k≥0) &&decide (Lj xs.length k≤(xs.length:Int) - 1))=false:=by
      rw[←Bool.not_eq_true,Bool.and_eq_true,decide_eq_true_eq,decide_eq_true_eq];exact hin
     rw[hb] at p3
     by_cases hn:k<0
     ·rw[fe,if_pos hn] at p3
      simp[Co,-List.getD_eq_getElem?_getD,-List.map_map,f91,p1,p2,q,ht',hn,w1,w2,p3,hr,ft,Bf]
     ·rw[fe,if_neg hn] at p3
      simp[Co,-List.getD_eq_getElem?_getD,-List.map_map,f91,p1,p2,q,ht',hn,w1,w2,p3,hr,ft,Bf]
   ·have ht': (40:Int)< (t.length:Int):=by omega
    have hr:Bao xs k t=none:=by unfold Bao;rw[if_neg (fun h=>ht h.2.1)]
    simp[Co,-List.getD_eq_getElem?_getD,-List.map_map,f91,p1,p2,q,ht',hr,ft,Bf]
def M6 (xs ts:List Bl):List Bl:=ts.foldl Bde xs
theorem Bsi (xs:List Bl) (t:Bl): (Bde xs t).length≤xs.length+1:=by
 unfold Bde
 split
 ·omega
 ·rw[Ke];omega
theorem Bcl (xs ts:List Bl): (M6 xs ts).length≤xs.length+ts.length:=by
 unfold M6
 induction ts generalizing xs with
 |nil=>simp
 |cons t ts ih=>
  have h1:=ih (Bde xs t)
  have h2:=Bsi xs t
  simp only[List.foldl_cons,List.length_cons]
  omega
theorem Bel (xs ts:List Bl) (i:Nat) (hi:i<ts.length):Bde (M6 xs (ts.take i)) (ts.getD i [])=M6 xs (ts.take (i+1)):=by
 rw[Kv ts i [] hi];simp only[M6,List.foldl_append,List.foldl_cons,List.foldl_nil]
theorem B2c (xs ts:List Bl) (hx:xs.length≤500000) (ht:ts.length≤500000):Be (ev R) 100 [.d (Bf xs), .d (Bf ts)]=
  some (.d (Bf (if Gx xs=true∧Gx ts=true then M6 xs ts else[]))):=Bb fun H=>by
 refine Bo (fn:=f100) rfl rfl ?_
 have p1:=Z7 xs (by omega)
 have p2:=Z7 ts (by omega)
 have p5:=Bc9 xs (by omega)
 have p6:=Uz xs (by omega)
 cases h1:Gx xs with
 |false=>rw[h1] at p1;simp[Co,-List.getD_eq_getElem?_getD,-List.map_map,f100,p1,p2,Bf]
 |true=>
  rw[h1] at p1
  cases h2:Gx ts with
  |false=>rw[h2] at p2;simp[Co,-List.getD_eq_getElem?_getD,-List.map_map,f100,p1,p2,Bf]
  |true=>
   rw[h2] at p2
   obtain⟨o,e',X',he,rfl,rfl,g5⟩:=(Dw (F:=Bp (ev R) R.glob (Bc H) Bg Bfh) (lv:=[1,5,6]) ts.length
    (fun i e X=>X=H∧e.get 1= .d (Bf ts)∧e.get 5= .d (Bf (M6 xs (ts.take i)))∧e.get 6= .d (.int .i64 i))
    (fun o e X=>o= .exit 0∧X=H∧e.get 5= .d (Bf (M6 xs ts)))
    (by
     rintro e X ⟨rfl,g1,g5,g6⟩
     rw[List.take_length] at g5
     simp[Co,-List.getD_eq_getElem?_getD,-List.map_map,Bfh,g1,g5,g6,Bf])
    (by
     rintro i e X hi ⟨rfl,g1,g5,g6⟩
     have c: (i:Int)< (ts.length:Int):=by omega
     have g:=Dt ts i hi
     have w1:IntKind.i64.wrap ((i:Int)+1)=((i+1:Nat):Int):=by rw[IntWalk.i64_in _ (by omega)];rfl
     have hl:=Bcl xs (ts.take i)
     have hl2: (ts.take i).length≤ts.length:=by rw[List.length_take];omega
     have p3:=Bx8 (M6 xs (ts.take i)) (ts.getD i []) (by omega)
     rw[Bel xs ts i hi] at p3
     generalize M6 xs (ts.take i)=A at*
     generalize M6 xs (ts.take (i+1))=B at*
     simp[Co,-List.getD_eq_getElem?_getD,-List.map_map,Bfh,g1,g5,g6,c,hi,g,w1,p3,Bf])
    ts.length 0 [(1, .d (Bf ts)),(5, .d (Bf xs)),(6, .d (.int .i64 0))] H (by omega) ⟨rfl,rfl,rfl,rfl⟩).out
   simp[Co,-List.getD_eq_getElem?_getD,-List.map_map,f100,p1,p2,p5,p6,he,g5,Bf]
theorem B6d (xs ts:List Bl) (hx:xs.length≤500000) (ht:ts.length≤500000):Be (ev R) 95 [.d (Bf xs), .d (Bf ts)]=
  some (if Gx xs=true then(if Dc ts=true∧(M6 xs ts).length≤16 then .tup [.d (Bf (M6 xs ts)), .d (.int .i64 ((M6 xs ts).length - xs.length)), .d (.bool true)] else .tup [.d (Bf xs), .d (.int .i64 0), .d (.bool false)]) else .tup [.d (Bf []), .d (.int .i64 0), .d (.bool false)]):=Bb fun H=>by
 refine Bo (fn:=f95) rfl rfl ?_
 have p1:=Z7 xs (by omega)
 have p2:=Bcg ts (by omega)
 have p5:=Bc9 xs (by omega)
 have p6:=Uz xs (by omega)
 cases h1:Gx xs with
 |false=>rw[h1] at p1;simp[Co,-List.getD_eq_getElem?_getD,-List.map_map,f95,p1,p2,Bf]
 |true=>
  rw[h1] at p1
  cases h2:Dc ts with
  |false=>rw[h2] at p2;simp[Co,-List.getD_eq_getElem?_getD,-List.map_map,f95,p1,p2,p5,p6,Bf]
  |true=>
   rw[h2] at p2
   obtain⟨o,e',X',he,rfl,rfl,g0,g7⟩:=(Dw (F:=Bp (ev R) R.glob (Bc H) Bg Bmm) (lv:=[0,1,7,8]) ts.length
    (fun i e X=>X=H∧e.get 0= .d (Bf xs)∧e.get 1= .d (Bf ts)∧e.get 7= .d (Bf (M6 xs (ts.take i)))∧e.get 8= .d (.int .i64 i))
    (fun o e X=>o= .exit 0∧X=H∧e.get 0= .d (Bf xs)∧e.get 7= .d (Bf (M6 xs ts)))
    (by
     rintro e X ⟨rfl,g0,g1,g5,g6⟩
     rw[List.take_length] at g5
     simp[Co,-List.getD_eq_getElem?_getD,-List.map_map,Bmm,g0,g1,g5,g6,Bf])
    (by
     rintro i e X hi ⟨rfl,g0,g1,g5,g6⟩
     have c: (i:Int)< (ts.length:Int):=by omega
     have g:=Dt ts i hi
     have w1:IntKind.i64.wrap ((i:Int)+1)=((i+1:Nat):Int):=by rw[IntWalk.i64_in _ (by omega)];rfl
     have hl:=Bcl xs (ts.take i)
     have hl2: (ts.take i).length≤ts.length:=by rw[List.length_take];omega
     have p3:=Bx8 (M6 xs (ts.take i)) (ts.getD i []) (by omega)
     rw[Bel xs ts i hi] at p3
     generalize M6 xs (ts.take i)=A at*
     generalize M6 xs (ts.take (i+1))=B at*
     simp[Co,-List.getD_eq_getElem?_getD,-List.map_map,Bmm,g0,g1,g5,g6,c,hi,g,w1,p3,Bf])
    ts.length 0 [(0, .d (Bf xs)),(1, .d (Bf ts)),(7, .d (Bf xs)),(8, .d (.int .i64 0))] H (by omega) ⟨rfl,rfl,rfl,rfl,rfl⟩).out
   have hal:=Bcl xs ts
   generalize M6 xs ts=A at*
   have w:IntKind.i64.wrap ((A.length:Int) - (xs.length:Int))=(A.length:Int) - (xs.length:Int):=IntWalk.i64_in _ (by omega)
   by_cases hl:A.length≤16
   ·have hl': ¬ (16:Int)< (A.length:Int):=by omega
    simp[Co,-List.getD_eq_getElem?_getD,-List.map_map,f95,p1,p2,p5,p6,he,g0,g7,w,hl,hl',Bf]
   ·have hl': (16:Int)< (A.length:Int):=by omega
    simp[Co,-List.getD_eq_getElem?_getD,-List.map_map,f95,p1,p2,p5,p6,he,g0,g7,w,hl,hl',Bf]
structure EnSm (e:En):Prop where
 list:e.list.length≤1000000
 scores:e.scores.length≤1000000
 fields:e.fields.length≤1000000
theorem Bvi (e:En) (h:EnSm e):Be (ev R) 45 [.d (Nf e)]=some (.d (Nf e)):=Bb fun H=>by
 refine Bo (fn:=f45) rfl rfl ?_
 obtain⟨key,till,kind,text,list,scores,fields⟩:=e
 obtain⟨h1,h2,h3⟩:=h
 dsimp only at h1 h2 h3
 have p5:=Bc9 list h1
 have p6:=Uz list h1
 have r2:scores.length*24≤Cx:=by unfold Cx;omega
 have r3:fields.length*32≤Cx:=by unfold Cx;omega
 simp[Co,-List.getD_eq_getElem?_getD,-List.map_map,f45,p5,p6,r2,r3,Bf]
theorem B55 (e:En) (h:EnSm e):Be (ev R) 69 [.d (Nf e)]=some (.d (.bool (decide (e.kind≠1) &&decide (e.text=[]) &&decide (e.list.length+e.scores.length+e.fields.length=0)))):=Bb fun H=>by
 refine Bo (fn:=f69) rfl rfl ?_
 obtain⟨h1,h2,h3⟩:=h
 have w1:IntKind.i64.wrap ((e.list.length:Int)+(e.scores.length:Int))=(e.list.length:Int)+(e.scores.length:Int):=IntWalk.i64_in _ (by omega)
 have w2:IntKind.i64.wrap ((e.list.length:Int)+(e.scores.length:Int)+(e.fields.length:Int))=(e.list.length:Int)+(e.scores.length:Int)+(e.fields.length:Int):=IntWalk.i64_in _ (by omega)
 have w3: ((e.list.length:Int)+(e.scores.length:Int)+(e.fields.length:Int)=0)=(e.list.length+e.scores.length+e.fields.length=0):=by
  apply propext;omega
 by_cases a:e.kind=1
 ·simp[Co,-List.getD_eq_getElem?_getD,-List.map_map,f69,eq_true a]
 ·by_cases b:e.text=[]
  ·generalize hz:e.list.length+e.scores.length+e.fields.length=z at*
   simp[Co,-List.getD_eq_getElem?_getD,-List.map_map,f69,eq_false a,eq_true b,w1,w2,w3]
  ·simp[Co,-List.getD_eq_getElem?_getD,-List.map_map,f69,eq_false a,eq_false b]
def cpH (b:Ba) (n:Int) (zs:List En) (H:Hp):Hp:=
 match zs with
 | []=> [.row 0 2 [.d (D6 b)], .row 0 2 [.agg [.d (.int .i64 0), .nils 7]], .row 0 2 [.agg [.d (.int .i64 n), .nils 7]]]
 |z::r=> [.row 0 2 [.d (D6 b)], .row 0 2 [.agg [.d (.int .i64 0), .nils 7]], .row 0 2 [.agg [.d (.int .i64 n), .slc (Bc H+3) r.length 0 (r.length+1)]], .row r.length 7 (((z::r).map Nf).map V.d)]
def cpV (b:Ba) (H:Hp):V:=match b.ents with
 | []=> .agg [.d (.int .i64 b.now), .nils 7]
 |z::r=> .agg [.d (.int .i64 b.now), .slc (Bc H) 0 0 (r.length+1)]
def cpB (b:Ba) (H:Hp):Hp:=match b.ents with
 | []=>H
 |z::r=>ap H [.row 0 7 (((z::r).map Nf).map V.d)]
theorem Bnt (b:Ba) (hb:b.ents.length≤1000000) (h: ∀e∈b.ents,EnSm e) (H:Hp):ev R 35 [.d (D6 b)] H=some (cpV b H,cpB b H):=by
 refine Bo (fn:=f35) rfl rfl ?_
 obtain⟨o,e',X',he,rfl,rfl,g2,g3⟩:=(Dw (F:=Bp (ev R) R.glob (Bc H) Bg Bdy) (lv:=[1,2,3,4]) b.ents.length
  (fun i e X=>X=ap H (cpH b b.now (b.ents.take i) H)∧e.get 1= .ptr (Bc H) 0 0 0∧e.get 2= .ptr (Bc H+1) 0 0 0∧e.get 3= .ptr (Bc H+2) 0 0 0∧e.get 4= .d (.int .i64 i))
  (fun o e X=>o= .exit 0∧X=ap H (cpH b b.now b.ents H)∧e.get 2= .ptr (Bc H+1) 0 0 0∧e.get 3= .ptr (Bc H+2) 0 0 0)
  (by
   rintro e X ⟨rfl,g1,g2,g3,g4⟩
   rw[List.take_length]
   cases hz:b.ents with
   |nil=>
    have hl:b.ents.length=0:=by rw[hz];rfl
    rw[hl] at g4
    simp[Co,-List.getD_eq_getElem?_getD,-List.map_map,Bdy,g1,g2,g3,g4,cpH,hl]
   |cons z r=>
    have hl:b.ents.length=r.length+1:=by rw[hz];rfl
    rw[hl] at g4
    simp[Co,-List.getD_eq_getElem?_getD,-List.map_map,Bdy,g1,g2,g3,g4,cpH,hl])
  (by
   rintro i e X hi ⟨rfl,g1,g2,g3,g4⟩
   have c: (i:Int)< (b.ents.length:Int):=by omega
   have g:=M3 b.ents i hi
   have p:=Bvi (b.ents.getD i default) (h _ (Mm hi))
   have w1:IntKind.i64.wrap ((i:Int)+1)=((i+1:Nat):Int):=by rw[IntWalk.i64_in _ (by omega)];rfl
   rw[Kv b.ents i default hi]
   have hl: (b.ents.take i).length=i:=by rw[List.length_take];omega
   generalize b.ents.getD i default=x at*
   generalize b.ents.take i=zs at*
   cases zs with
   |nil=>
    obtain rfl:i=0:=by simpa using hl.symm
    have w0:IntKind.i64.wrap 1=1:=by rw[IntWalk.i64_in _ (by omega)]
    simp[Co,-List.getD_eq_getElem?_getD,-List.map_map,Bdy,g1,g2,g3,g4,c,hi,g,p,w0,cpH,Cx]
   |cons z r=>
    obtain rfl:i=r.length+1:=by simpa using hl.symm
    have rm: (r.length+1+1)*120≤Cx:=by unfold Cx;omega
    have c': (r.length:Int)+1< (b.ents.length:Int):=by omega
    have w0:IntKind.i64.wrap ((r.length:Int)+1+1)=(r.length:Int)+1+1:=IntWalk.i64_in _ (by omega)
    have c0: (0:Int)≤(r.length:Int)+1:=by omega
    have c1: ((r.length:Int)+1).toNat=r.length+1:=by omega
    simp[Co,-List.getD_eq_getElem?_getD,-List.map_map,Bdy,g1,g2,g3,g4,c',c0,c1,hi,g,p,w0,cpH,rm])
  b.ents.length 0 [(1, .ptr (Bc H) 0 0 0),(2, .ptr (Bc H+1) 0 0 0),(3, .ptr (Bc H+2) 0 0 0),(4, .d (.int .i64 0))] (ap H (cpH b b.now [] H)) (by omega) ⟨rfl,rfl,rfl,rfl,rfl⟩).out
 obtain⟨now,ents⟩:=b
 cases ents with
 |nil=>
  simp only[cpH] at he
  simp[Co,-List.getD_eq_getElem?_getD,-List.map_map,f35,he,g2,g3,cpV,cpB,Yv]
 |cons z r=>
  simp only[cpH] at he
  simp[Co,-List.getD_eq_getElem?_getD,-List.map_map,f35,he,g2,g3,cpV,cpB,Yv]
theorem Bxp (b:Ba) (H:Hp):fzV (Bc H) (cpB b H) (cpV b H)=some (.d (D6 b)):=by
 obtain⟨now,ents⟩:=b
 cases ents with
 |nil=>simp[Co,-List.getD_eq_getElem?_getD,-List.map_map,cpV,cpB,F9]
 |cons z r=>
  simp[Co,-List.getD_eq_getElem?_getD,-List.map_map,cpV,cpB]
  rfl
theorem Bv0 (b:Ba) (H:Hp):Du (cpB b H) (Bc H)=H:=by
 obtain⟨now,ents⟩:=b
 cases ents with
 |nil=>simp[Co,-List.getD_eq_getElem?_getD,-List.map_map,cpB]
 |cons z r=>simp[Co,-List.getD_eq_getElem?_getD,-List.map_map,cpB]
structure BaSm (b:Ba):Prop where
 len:b.ents.length≤1000000
 each: ∀e∈b.ents,EnSm e
theorem Xw {es:List En} {t:Bl} (h:Xv es t=true):Y2 es t<es.length:=by
 unfold Xv at h
 rw[Bool.and_eq_true,decide_eq_true_eq] at h
 exact h.1
def Ca (b:Ba) (t:Bl):En:=if Xv b.ents t=true then b.ents.getD (Y2 b.ents t) default else⟨t,0,0,[],[],[],[]⟩
theorem Gw (b:Ba) (t:Bl) (hb:BaSm b):Be (ev R) 81 [.d (D6 b), .d (.str t)]=some (.d (Nf (Ca b t))):=Bb fun H=>by
 refine Bo (fn:=f81) rfl rfl ?_
 have p1:=Br8 b t hb.len
 have hl:=Xw (es:=b.ents) (t:=t)
 unfold Ca
 cases h:Xv b.ents t with
 |false=>
  rw[h] at p1
  simp[Co,-List.getD_eq_getElem?_getD,-List.map_map,f81,p1]
 |true=>
  rw[h] at p1
  have hl:=hl h
  have c: (Y2 b.ents t:Int)< (b.ents.length:Int):=by omega
  have c0: (0:Int)≤(Y2 b.ents t:Int):=by omega
  have g:=M3 b.ents (Y2 b.ents t) hl
  have p2:=Bvi (b.ents.getD (Y2 b.ents t) default) (hb.each _ (Mm hl))
  simp[Co,-List.getD_eq_getElem?_getD,-List.map_map,f81,p1,hl,c,c0,g,p2]
def Jl (b:Ba) (t:Bl):Ba:=if Xv b.ents t=true then⟨b.now,Mx b.ents (Y2 b.ents t)⟩ else b
theorem Bov (b:Ba) (t:Bl) (hb:BaSm b):Be (ev R) 68 [.d (D6 b), .d (.str t)]=some (.d (D6 (Jl b t))):=Bb fun H=>by
 refine Bo (fn:=f68) rfl rfl ?_
 have p0:=Bnt b hb.len hb.each
 have z0:=Bxp b
 have t0:=Bv0 b
 have p1:=Br8 b t hb.len
 have hl:=Xw (es:=b.ents) (t:=t)
 have hbl:=hb.len
 unfold Jl
 cases h:Xv b.ents t with
 |false=>
  rw[h] at p1
  simp[Co,-List.getD_eq_getElem?_getD,-List.map_map,f68,p0, ↓z0, ↓t0,p1]
 |true=>
  rw[h] at p1
  have hl:=hl h
  obtain⟨now,ents⟩:=b
  dsimp only at*
  generalize Y2 ents t=k at*
  have hk:k≤ents.length:=by omega
  have hk': (k:Int)≤(ents.length:Int):=by omega
  have hk0: (0:Int)≤(k:Int):=by omega
  have w1:IntKind.i64.wrap ((k:Int)+1)=((k+1:Nat):Int):=by rw[IntWalk.i64_in _ (by omega)];rfl
  have hk1: (k:Int)+1≤(ents.length:Int):=by omega
  have hk2:k+1≤ents.length:=by omega
  have hk3: (0:Int)≤(k:Int)+1:=by omega
  have hk4: ((k:Int)+1).toNat=k+1:=by omega
  have r1:k*120≤Cx:=by unfold Cx;omega
  have r3: (k+(ents.length - (k+1)))*120≤Cx:=by unfold Cx;omega
  have mn:min k ents.length=k:=by omega
  have f1:=Bgo Nf ents k
  have f2:=Bgp Nf ents k hl
  have f3:=Bqx ents k hl
  simp[Co,-List.getD_eq_getElem?_getD,-List.map_map,f68,p0, ↓z0, ↓t0,p1,De,hl,hk,hk',hk0,w1,hk1,hk2,hk3,hk4,r1,r3,mn,f1,f2,f3]
def Bfc (e:En):Bool:=decide (e.kind≠1) &&decide (e.text=[]) &&decide (e.list.length+e.scores.length+e.fields.length=0)
def Bfm (b:Ba) (e:En):Bool:=Kw e&& !(decide (e.till≠0) &&decide (e.till≤b.now)) &&decide ((Jl b e.key).ents.length<12)
def Rx (b:Ba) (e:En):Ba×Bool:=
 if Bfc e=true then(Jl b e.key,true)
 else if Bfm b e=true then(⟨b.now,J2 (Jl b e.key).ents (Y2 (Jl b e.key).ents e.key) e⟩,true)
 else(b,false)
theorem Bib (b:Ba) (t:Bl): (Jl b t).now=b.now:=by unfold Jl;split<;>rfl
theorem Bia {b:Ba} {t:Bl} {e:En} (h:e∈(Jl b t).ents):e∈b.ents:=by
 unfold Jl at h
 split at h
 ·simp only[Mx,List.mem_append] at h
  rcases h with h|h
  ·exact List.mem_of_mem_take h
  ·exact List.mem_of_mem_drop h
 ·exact h
theorem X7 (b:Ba) (t:Bl): (Jl b t).ents.length≤b.ents.length:=by
 unfold Jl
 split
 ·rename_i h
  have:=Xw h
  simp only[Yt _ _ this];omega
 ·exact Nat.le_refl _
theorem Bvl {b:Ba} (hb:BaSm b) (t:Bl):BaSm (Jl b t):=⟨Nat.le_trans (X7 b t) hb.len,fun e he=>hb.each e (Bia he)⟩
theorem B2o (b:Ba) (e:En) (hb:BaSm b) (he:EnSm e) (hf:EnFit e):Be (ev R) 48 [.d (D6 b), .d (Nf e)]=some (.tup [.d (D6 (Rx b e).1), .d (.bool (Rx b e).2)]):=Bb fun H=>by
 refine Bo (fn:=f48) rfl rfl ?_
 have p0:=Bnt b hb.len hb.each
 have z0:=Bxp b
 have t0:=Bv0 b
 have p1:=Bov b e.key hb
 have p2:Be (ev R) 69 [.d (Nf e)]=some (.d (.bool (Bfc e))):=B55 e he
 have p3:=Bb (cl:=ev R) fun H=>B07 H e hf
 have p4:=Br8 (Jl b e.key) e.key (Bvl hb e.key).len
 have p5:=Bvi e he
 have hn:=Bib b e.key
 have hdl:=X7 b e.key
 have hbl:=hb.len
 unfold Rx
 cases h1:Bfc e with
 |true=>
  rw[h1] at p2
  simp[Co,-List.getD_eq_getElem?_getD,-List.map_map,f48,p1,p2]
 |false=>
  rw[h1] at p2
  unfold Bfm
  cases h2:Kw e with
  |false=>
   rw[h2] at p3
   simp[Co,-List.getD_eq_getElem?_getD,-List.map_map,f48,p0, ↓z0, ↓t0,p1,p2,p3]
  |true=>
   rw[h2] at p3
   by_cases h3:e.till≠0∧e.till≤b.now
   ·have h30: (e.till=0)=False:=eq_false h3.1
    have h31: (e.till≤b.now)=True:=eq_true h3.2
    simp[Co,-List.getD_eq_getElem?_getD,-List.map_map,f48,p0, ↓z0, ↓t0,p1,p2,p3,h30,h31]
   ·by_cases h4: (Jl b e.key).ents.length<12
    ·have h4': ((Jl b e.key).ents.length:Int)<12:=by omega
     have h4'': ¬ (12:Int)≤((Jl b e.key).ents.length:Int):=by omega
     have hk:=Bro (Jl b e.key).ents e.key
     generalize Jl b e.key=C at*
     obtain⟨now,ents⟩:=C
     dsimp only at*
     subst hn
     generalize Y2 ents e.key=k at*
     have hk': (k:Int)≤(ents.length:Int):=by omega
     have hk0: (0:Int)≤(k:Int):=by omega
     have r1:k*120≤Cx:=by unfold Cx;omega
     have r2: (k+1)*120≤Cx:=by unfold Cx;omega
     have r3: (k+1+(ents.length - k))*120≤Cx:=by unfold Cx;omega
     have mn:min k ents.length=k:=by omega
     have f1:=Xt Nf ents k e
     have f2:=Xu Nf ents k e hk
     have f3:=Bfj ents k e hk
     by_cases h5:e.till=0
     ·simp[Co,-List.getD_eq_getElem?_getD,-List.map_map,f48,p0, ↓z0, ↓t0,p1,p2,p3,p4,p5,eq_true h5,h4,h4',h4'',De,hk,hk',hk0,r1,r2,r3,mn,f1,f2,f3]
     ·have h6: (e.till≤b.now)=False:=eq_false (fun h=>h3 ⟨h5,h⟩)
      simp[Co,-List.getD_eq_getElem?_getD,-List.map_map,f48,p0, ↓z0, ↓t0,p1,p2,p3,p4,p5,eq_false h5,h6,h4,h4',h4'',De,hk,hk',hk0,r1,r2,r3,mn,f1,f2,f3]
    ·have h4': ¬ ((Jl b e.key).ents.length:Int)<12:=by omega
     have h4'': (12:Int)≤((Jl b e.key).ents.length:Int):=by omega
     by_cases h5:e.till=0
     ·simp[Co,-List.getD_eq_getElem?_getD,-List.map_map,f48,p0, ↓z0, ↓t0,p1,p2,p3,eq_true h5,h4,h4',h4'']
     ·have h6: (e.till≤b.now)=False:=eq_false (fun h=>h3 ⟨h5,h⟩)
      simp[Co,-List.getD_eq_getElem?_getD,-List.map_map,f48,p0, ↓z0, ↓t0,p1,p2,p3,eq_false h5,h6,h4,h4',h4'']
end Go.Proofs.YtedlandcnpjghaaGreatDoor.Code

/- Lemmas (several texts in one). -/
import Derived.Test.YtpajcoanfkeibaaGreatDoorMDoRename6
import Derived.Test.YtpajcoanfkeibaaGreatDoorMDoRename14
import Derived.Test.YtpajcoanfkeibaaGreatDoorMDoRename16
set_option maxRecDepth 100000
set_option linter.unusedSimpArgs false
set_option linter.unusedVariables false
namespace Go.Proofs.YtpajcoanfkeibaaGreatDoor.Code
open Go Go.Ev Go.Proofs
theorem Bkw (xs:List Bq) (hx:xs.length≤9223372036854775807):Be (ev R) 60 [.d (Bf xs)]=some (.d (.bool (Cj xs))):=Bb fun H=>Bey H xs hx
theorem Byw (xs:List Bq) (hx:xs.length≤1000000):Be (ev R) 256 [.d (Bf xs)]=some (.d (Bf xs.reverse)):=Bb fun H=>by
 refine Bh (fn:=f256) rfl rfl ?_
 have hyl:xs.reverse.length=xs.length:=List.length_reverse
 have hyg: ∀i,i<xs.length→xs.reverse.getD i []=xs.getD (xs.length - 1 - i) []:=fun i hi=>by
  rw[List.getD_eq_getElem?_getD,List.getElem?_reverse (by omega),←List.getD_eq_getElem?_getD]
 generalize xs.reverse=ys at*
 obtain⟨o,e',X',he,rfl,rfl,g3⟩:=(C8 (F:=Bp (ev R) R.glob (Bc H) Bg Be5) (lv:=[0,3,4]) xs.length
  (fun i e X=> ∃zs,zs=ys.take i∧zs.length=i∧X=ap H [.row zs.length 1 ((zs.map D.str).map V.d)]∧e.get 0= .d (Bf xs)∧e.get 3= .slc (Bc H) zs.length 0 zs.length∧e.get 4= .d (.int .i64 ((xs.length:Int) - 1 - i)))
  (fun o e X=>o= .exit 0∧X=ap H [.row xs.length 1 ((ys.map D.str).map V.d)]∧e.get 3= .slc (Bc H) xs.length 0 xs.length)
  (by
   rintro e X ⟨zs,hz,hl,rfl,g0,g3,g4⟩
   have h1:zs=ys:=by rw[hz];exact List.take_of_length_le (by omega)
   subst h1
   have c: ¬ (xs.length:Int)≤(xs.length:Int) - 1:=by omega
   rw[hyl] at g3
   simp[Ci,-List.getD_eq_getElem?_getD,-List.map_map,Be5,g0,g3,g4,c,hyl,Bf])
  (by
   rintro i e X hi ⟨zs,hz,hl,rfl,g0,g3,g4⟩
   have c: (0:Int)≤(xs.length:Int) - 1 - (i:Int):=by omega
   obtain⟨k,hk⟩: ∃k:Nat,(k:Int)=(xs.length:Int) - 1 - (i:Int):=⟨xs.length - 1 - i,by omega⟩
   have hkl:k<xs.length:=by omega
   have c0: (0:Int)≤(k:Int):=by omega
   have c1: (k:Int)< (xs.length:Int):=by omega
   have g:=Dj xs k hkl
   have w1:IntKind.i64.wrap ((k:Int) - 1)=(xs.length:Int) - 1 - ((i:Int)+1):=by rw[IntWalk.i64_in _ (by omega)];omega
   rw[←hk] at g4
   have r: (i+1)*16≤Cq:=by unfold Cq;omega
   have hn:ys.take (i+1)=zs++[xs.getD k []]:=by
    have:xs.length - 1 - i=k:=by omega
    rw[Js ys i [] (by omega),←hz,hyg i hi,this]
   simp[Ci,-List.getD_eq_getElem?_getD,-List.map_map,Be5,g0,g3,g4,c0,c1,hkl,g,w1,r,hn,hl,Bf])
  xs.length 0 [(0, .d (Bf xs)),(3, .slc (Bc H) 0 0 0),(4, .d (.int .i64 ((xs.length:Int) - 1)))] (ap H [.row 0 1 []]) (by omega) ⟨[],by simp,rfl,rfl,rfl,rfl,by show V.d (D.int IntKind.i64 ((xs.length:Int) - 1))=_;simp⟩).out
 have w:IntKind.i64.wrap ((xs.length:Int) - 1)=(xs.length:Int) - 1:=IntWalk.i64_in _ (by omega)
 have ft:List.take xs.length ((ys.map D.str).map V.d)=(ys.map D.str).map V.d:=List.take_of_length_le (by simp;omega)
 simp[Ci,-List.getD_eq_getElem?_getD,-List.map_map,f256,he,g3,w,ft,hyl,Bf]
def Td (xs:List Bq) (f t:Int):List Bq:=((xs.take (J5 xs.length f t).2.toNat).drop (J5 xs.length f t).1.toNat)
def Jw (n:Int):Bool:=decide (-1000000000≤n) &&decide (n≤1000000000)
theorem Baz (n:Nat) (f t:Int):0≤(J5 n f t).1∧(J5 n f t).1≤(J5 n f t).2∧(J5 n f t).2≤n:=by
 unfold J5
 dsimp only
 repeat' split
 all_goals dsimp only
 all_goals omega
theorem B4u (xs:List Bq) (f t:Int) (hx:xs.length≤1000000):Be (ev R) 210 [.d (Bf xs), .d (.int .i64 f), .d (.int .i64 t)]=
  some (.d (Bf (if Cj xs=true∧Jw f=true∧Jw t=true then Td xs f t else[]))):=Bb fun H=>by
 refine Bh (fn:=f210) rfl rfl ?_
 have p1:=Bkw xs (by omega)
 have p2:Be (ev R) 255 [.d (.int .i64 f)]=some (.d (.bool (Jw f))):=Bd2 f
 have p3:Be (ev R) 255 [.d (.int .i64 t)]=some (.d (.bool (Jw t))):=Bd2 t
 cases h1:Cj xs with
 |false=>rw[h1] at p1;simp[Ci,-List.getD_eq_getElem?_getD,-List.map_map,f210,p1,Bf]
 |true=>
  cases h2:Jw f with
  |false=>rw[h1] at p1;rw[h2] at p2;simp[Ci,-List.getD_eq_getElem?_getD,-List.map_map,f210,p1,p2,Bf]
  |true=>
   cases h3:Jw t with
   |false=>rw[h1] at p1;rw[h2] at p2;rw[h3] at p3;simp[Ci,-List.getD_eq_getElem?_getD,-List.map_map,f210,p1,p2,p3,Bf]
   |true=>
    rw[h1] at p1;rw[h2] at p2;rw[h3] at p3
    unfold Jw at h2 h3
    simp only[Bool.and_eq_true,decide_eq_true_eq] at h2 h3
    have p4:=Br5 xs.length f t (by omega) h2 h3
    obtain⟨b1,b2,b3⟩:=Baz xs.length f t
    have hr:Td xs f t=((xs.take (J5 xs.length f t).2.toNat).drop (J5 xs.length f t).1.toNat):=rfl
    generalize(J5 xs.length f t).1=a at*
    generalize(J5 xs.length f t).2=b at*
    obtain⟨A,rfl⟩: ∃A:Nat,a=(A:Int):=⟨a.toNat,by omega⟩
    obtain⟨B,rfl⟩: ∃B:Nat,b=(B:Int):=⟨b.toNat,by omega⟩
    simp only[Int.toNat_natCast] at hr
    have b5:A≤B:=by omega
    have b6:B≤xs.length:=by omega
    have hd:List.drop A (List.take B (List.map D.str xs))=(Td xs f t).map D.str:=by rw[hr];simp only[List.map_drop,List.map_take]
    have hl: (Td xs f t).length≤1000000:=by rw[hr];simp only[List.length_drop,List.length_take];omega
    have p5:=Bc4 (Td xs f t) hl
    have p6:=Uv (Td xs f t) hl
    simp[Ci,-List.getD_eq_getElem?_getD,-List.map_map,f210,p1,p2,p3,p4,Da,b1,b2,b3,b5,b6,hd,p5,p6,Bf]
theorem B4r (xs:List Bq) (f:Bool) (hx:xs.length≤1000000):Be (ev R) 207 [.d (Bf xs), .d (.bool f)]=
  some (if Cj xs=true∧0<xs.length then(if f=true then .tup [.d (Bf xs.tail), .d (.str (xs.getD 0 [])), .d (.bool true)] else .tup [.d (Bf (xs.take (xs.length - 1))), .d (.str (xs.getD (xs.length - 1) [])), .d (.bool true)]) else .tup [.d (Bf []), .d (.str []), .d (.bool false)]):=Bb fun H=>by
 refine Bh (fn:=f207) rfl rfl ?_
 have p1:=Bkw xs (by omega)
 cases h1:Cj xs with
 |false=>rw[h1] at p1;simp[Ci,-List.getD_eq_getElem?_getD,-List.map_map,f207,p1,Bf]
 |true=>
  rw[h1] at p1
  by_cases h0:0<xs.length
  ·have h0': ¬ (xs.length:Int)=0:=by omega
   have h0'': (0:Int)< (xs.length:Int):=by omega
   have h1': (1:Int)≤(xs.length:Int):=by omega
   have h1'':1≤xs.length:=by omega
   have hne: ¬xs.length=0:=by omega
   cases f with
   |true=>
    have p5:=Bc4 xs.tail (by simp;omega)
    have p6:=Uv xs.tail (by simp;omega)
    simp only[Bf,List.map_tail] at p5 p6
    have g:=Dj xs 0 h0
    simp[Ci,-List.getD_eq_getElem?_getD,-List.map_map,f207,p1,h0,h0',h0'',h1',h1'',eq_false hne,g,Da,p5,p6,Bf]
   |false=>
    obtain⟨k,hk⟩: ∃k:Nat,xs.length=k+1:=⟨xs.length - 1,by omega⟩
    have w:IntKind.i64.wrap ((xs.length:Int) - 1)=(k:Int):=by rw[IntWalk.i64_in _ (by omega)];omega
    have hk1:xs.length - 1=k:=by omega
    have c1: (k:Int)≤(xs.length:Int):=by omega
    have c2: (k:Int)< (xs.length:Int):=by omega
    have c3:k≤xs.length:=by omega
    have c4: (0:Int)≤(k:Int):=by omega
    have c5:k<xs.length:=by omega
    have p5:=Bc4 (xs.take k) (by simp;omega)
    have p6:=Uv (xs.take k) (by simp;omega)
    simp only[Bf,List.map_take] at p5 p6
    have g:=Dj xs k (by omega)
    rw[hk1]
    simp[Ci,-List.getD_eq_getElem?_getD,-List.map_map,f207,p1,h0,h0',h0'',h1',h1'',eq_false hne,g,w,c1,c2,c3,c4,c5,Da,p5,p6,Bf]
  ·have h0': (xs.length:Int)=0:=by omega
   have h00:xs.length=0:=by omega
   simp[Ci,-List.getD_eq_getElem?_getD,-List.map_map,f207,p1,eq_true h0',eq_true h00,h0,Bf]
theorem Bas {Y l H:Hp} (h:Cx Y (Bc H)=H) (hle:Bc H≤Bc Y):Cx (ap Y l) (Bc H)=H:=by
 have:Cx (ap Y l) (Bc H)=Cx Y (Bc H):=by
  simp only[ap,Cx,Bc] at*
  exact List.take_append_of_le_length hle
 rw[this,h]
theorem Bzo {H X:Hp} {r g e:Nat} {ds:List D} {k:Nat} (hr:Cw X r g=some (e,ds.map V.d)) (hk:k=ds.length) (hle:Bc H≤r):Ws (Bc H) X (.slc r g 0 k)=some (.d (.vals e ds)):=by
 subst hk
 have h: ((ds.map V.d).drop 0).take ds.length=ds.map V.d:=by rw[List.drop_zero,List.take_of_length_le (by simp)]
 have:=Yu (H:=X) (n:=Bc H) (d:=7) (r:=r) (g:=g) (i:=0) (k:=ds.length) (by omega) hr (by simp) (by rw[h];exact Bbu _)
 show(if r<Bc H then _ else(match fz (Bc H) M7 _ (.slc r g 0 ds.length) with|some x=>some (V.d x) |none=>none))=_
 rw[if_neg (by omega)]
 show(match fz (Bc H) (7+1) _ (.slc r g 0 ds.length) with|some x=>some (V.d x) |none=>none)=_
 rw[this]
def Bh2 (xs:List Bq) (f:Bool) (ts:List Bq):List Bq:=if f=true then ts.reverse++xs else xs++ts
theorem Bz0 (xs ts:List Bq) (hx:xs.length≤1000000) (ht:ts.length≤1000000):Be (ev R) 254 [.d (Bf xs), .d (.bool false), .d (Bf ts)]=some (.d (Bf (xs++ts))):=Bb fun H=>by
 refine Bh (fn:=f254) rfl rfl ?_
 have q:=fun H=>Brg H xs hx
 obtain⟨o,e',X',he,zs,hz,rfl,rfl,g7⟩:=(C8 (F:=Bp (ev R) R.glob (Bc H) Bg Qj) (lv:=[1,2,7,8]) ts.length
  (fun i e X=> ∃zs,zs=xs++ts.take i∧zs.length=xs.length+i∧X=ap H [.row i 1 ((zs.map D.str).map V.d)]∧e.get 1= .d (.bool false)∧e.get 2= .d (Bf ts)∧e.get 7= .slc (Bc H) i 0 zs.length∧e.get 8= .d (.int .i64 i))
  (fun o e X=> ∃zs,zs=xs++ts∧o= .exit 0∧X=ap H [.row ts.length 1 ((zs.map D.str).map V.d)]∧e.get 7= .slc (Bc H) ts.length 0 zs.length)
  (by
   rintro e X ⟨zs,hz,hl,rfl,g1,g2,g7,g8⟩
   rw[List.take_length] at hz
   simp[Ci,-List.getD_eq_getElem?_getD,-List.map_map,Qj,g1,g2,g7,g8,Bf]
   subst hz
   simp)
  (by
   rintro i e X hi ⟨zs,hz,hl,rfl,g1,g2,g7,g8⟩
   have c: (i:Int)< (ts.length:Int):=by omega
   have g:=Dj ts i hi
   have w1:IntKind.i64.wrap ((i:Int)+1)=((i+1:Nat):Int):=by rw[IntWalk.i64_in _ (by omega)];rfl
   have r: (zs.length+1)*16≤Cq:=by unfold Cq;omega
   have hn:zs++[ts.getD i []]=xs++ts.take (i+1):=by rw[Js ts i [] hi,hz,List.append_assoc]
   have hl':zs.length+1=xs.length+(i+1):=by omega
   have key:Bp (ev R) R.glob (Bc H) Bg Qj ⟨e.keep [1,2,7,8],ap H [.row i 1 ((zs.map D.str).map V.d)]⟩=some (.normal,⟨[(8, .d (.int .i64 ((i+1:Nat):Int))),(16, .d (.int .i64 ((i+1:Nat):Int))),(15, .d (.int .i64 i)),(1, .d (.bool false)),(2, .d (Bf ts)),(7, .slc (Bc H) (i+1) 0 (zs.length+1)),(8, .d (.int .i64 i))],ap H [.row (i+1) 1 (((zs++[ts.getD i []]).map D.str).map V.d)]⟩):=by
    simp[Ci,-List.getD_eq_getElem?_getD,-List.map_map,Qj,g1,g2,g7,g8,c,hi,g,w1,r,Bf]
   rw[key]
   exact⟨_,hn,by simp[hl];omega,rfl,rfl,rfl,by simp[Env.get];rfl,rfl⟩)
  ts.length 0 [(1, .d (.bool false)),(2, .d (Bf ts)),(7, .slc (Bc H) 0 0 xs.length),(8, .d (.int .i64 0))] (ap H [.row 0 1 ((xs.map D.str).map V.d)]) (by omega) ⟨xs,by simp,rfl,rfl,rfl,rfl,rfl,rfl⟩).out
 have ft:List.take zs.length ((zs.map D.str).map V.d)=(zs.map D.str).map V.d:=List.take_of_length_le (by simp)
 rw[←hz]
 simp[Ci,-List.getD_eq_getElem?_getD,-List.map_map,f254,q,he,g7,ft,Bf]
theorem Bz1 (xs ts:List Bq) (hx:xs.length≤1000000) (ht:ts.length≤1000000):Be (ev R) 254 [.d (Bf xs), .d (.bool true), .d (Bf ts)]=some (.d (Bf (ts.reverse++xs))):=Bb fun H=>by
 refine Bh (fn:=f254) rfl rfl ?_
 have q:=fun H=>Brg H xs hx
 obtain⟨o,e',X',he,zs,Y,g,hz,rfl,rfl,tk,hle,g7⟩:=(C8 (F:=Bp (ev R) R.glob (Bc H) Bg Qj) (lv:=[1,2,7,8]) ts.length
  (fun i e X=> ∃zs Y g,zs=(ts.take i).reverse++xs∧zs.length=xs.length+i∧X=ap Y [.row g 1 ((zs.map D.str).map V.d)]∧Cx Y (Bc H)=H∧Bc H≤Bc Y∧e.get 1= .d (.bool true)∧e.get 2= .d (Bf ts)∧e.get 7= .slc (Bc Y) g 0 zs.length∧e.get 8= .d (.int .i64 i))
  (fun o e X=> ∃zs Y g,zs=ts.reverse++xs∧o= .exit 0∧X=ap Y [.row g 1 ((zs.map D.str).map V.d)]∧Cx Y (Bc H)=H∧Bc H≤Bc Y∧e.get 7= .slc (Bc Y) g 0 zs.length)
  (by
   rintro e X ⟨zs,Y,g,hz,hl,rfl,tk,hle,g1,g2,g7,g8⟩
   rw[List.take_length] at hz
   have key:Bp (ev R) R.glob (Bc H) Bg Qj ⟨e.keep [1,2,7,8],ap Y [.row g 1 ((zs.map D.str).map V.d)]⟩=some (.exit 0,⟨[(1, .d (.bool true)),(2, .d (Bf ts)),(7, .slc (Bc Y) g 0 zs.length),(8, .d (.int .i64 ts.length)),(14, .d (.bool false))],ap Y [.row g 1 ((zs.map D.str).map V.d)]⟩):=by
    simp[Ci,-List.getD_eq_getElem?_getD,-List.map_map,Qj,g1,g2,g7,g8,Bf]
   rw[key]
   exact⟨by simp,zs,Y,g,hz,rfl,rfl,tk,hle,rfl⟩)
  (by
   rintro i e X hi ⟨zs,Y,g0,hz,hl,rfl,tk,hle,g1,g2,g7,g8⟩
   have c: (i:Int)< (ts.length:Int):=by omega
   have g:=Dj ts i hi
   have w1:IntKind.i64.wrap ((i:Int)+1)=((i+1:Nat):Int):=by rw[IntWalk.i64_in _ (by omega)];rfl
   have r: (1+zs.length)*16≤Cq:=by unfold Cq;omega
   have hn:ts.getD i []::zs=(ts.take (i+1)).reverse++xs:=by rw[Js ts i [] hi,hz,List.reverse_append];rfl
   have ft:List.take zs.length ((zs.map D.str).map V.d)=(zs.map D.str).map V.d:=List.take_of_length_le (by simp)
   have ft':List.take zs.length (zs.map D.str)=zs.map D.str:=List.take_of_length_le (by simp)
   have key:Bp (ev R) R.glob (Bc H) Bg Qj ⟨e.keep [1,2,7,8],ap Y [.row g0 1 ((zs.map D.str).map V.d)]⟩=some (.normal,⟨[(8, .d (.int .i64 ((i+1:Nat):Int))),(16, .d (.int .i64 ((i+1:Nat):Int))),(15, .d (.int .i64 i)),(1, .d (.bool true)),(2, .d (Bf ts)),(7, .slc (Bc Y+1) 1 0 (1+zs.length)),(8, .d (.int .i64 i))],ap Y [.row g0 1 ((zs.map D.str).map V.d), .row 1 1 (((ts.getD i []::zs).map D.str).map V.d)]⟩):=by
    simp[Ci,-List.getD_eq_getElem?_getD,-List.map_map,Qj,g1,g2,g7,g8,c,hi,g,w1,r,ft,ft',Bf]
   rw[key]
   refine⟨_,ap Y [.row g0 1 ((zs.map D.str).map V.d)],1,hn,by simp;omega,by rw[Bl7];rfl, ?_, ?_,rfl,rfl, ?_,rfl⟩
   ·exact Bas tk hle
   ·rw[Yc];omega
   ·rw[Yc,List.length_cons (a:=ts.getD i []),Nat.add_comm zs.length 1];rfl)
  ts.length 0 [(1, .d (.bool true)),(2, .d (Bf ts)),(7, .slc (Bc H) 0 0 xs.length),(8, .d (.int .i64 0))] (ap H [.row 0 1 ((xs.map D.str).map V.d)]) (by omega) ⟨xs,H,0,by simp,rfl,rfl,Jq H,Nat.le_refl _,rfl,rfl,rfl,rfl⟩).out
 have ft:List.take zs.length ((zs.map D.str).map V.d)=(zs.map D.str).map V.d:=List.take_of_length_le (by simp)
 have tk2: ∀l,Cx (ap Y l) (Bc H)=H:=fun l=>Bas tk hle
 have b1:Nat.blt (Bc Y) (Bc H)=false:=by
  cases h:Nat.blt (Bc Y) (Bc H) with
  |false=>rfl
  |true=>simp at h;omega
 have b2: ¬Bc Y<Bc H:=by omega
 have fz:=Bzo (H:=H) (X:=ap Y [.row g 1 ((zs.map D.str).map V.d)]) (r:=Bc Y) (g:=g) (e:=1) (ds:=zs.map D.str) (k:=zs.length) (by simp[Cw,Beq,Cf]) (by simp) hle
 rw[←hz]
 simp[Ci,-List.getD_eq_getElem?_getD,-List.map_map,f254,q,he,g7,ft,tk2,b1,b2,fz,Bf]
theorem B48 (xs:List Bq) (f:Bool) (ts:List Bq) (hx:xs.length≤1000000) (ht:ts.length≤1000000):Be (ev R) 254 [.d (Bf xs), .d (.bool f), .d (Bf ts)]=some (.d (Bf (Bh2 xs f ts))):=by
 cases f with
 |false=>exact Bz0 xs ts hx ht
 |true=>exact Bz1 xs ts hx ht
theorem Bka {xs:List Bq} (h:Cj xs=true):xs.length≤16:=by
 unfold Cj at h
 rw[Bool.and_eq_true,decide_eq_true_eq] at h
 exact h.2
theorem B4q (xs:List Bq) (f:Bool) (ts:List Bq) (hx:xs.length≤1000000) (ht:ts.length≤1000000):Be (ev R) 206 [.d (Bf xs), .d (.bool f), .d (Bf ts)]=
  some (if Cj xs=true then(if Cj ts=true∧xs.length+ts.length≤16 then .tup [.d (Bf (Bh2 xs f ts)), .d (.bool true)] else .tup [.d (Bf xs), .d (.bool false)]) else .tup [.d (Bf []), .d (.bool false)]):=Bb fun H=>by
 refine Bh (fn:=f206) rfl rfl ?_
 have p1:=Bkw xs (by omega)
 have p2:=Bkw ts (by omega)
 have p3:=B48 xs f ts hx ht
 have p5:=Bc4 xs hx
 have p6:=Uv xs hx
 have w:IntKind.i64.wrap ((xs.length:Int)+(ts.length:Int))=(xs.length:Int)+(ts.length:Int):=IntWalk.i64_in _ (by omega)
 cases h1:Cj xs with
 |false=>rw[h1] at p1;simp[Ci,-List.getD_eq_getElem?_getD,-List.map_map,f206,p1,Bf]
 |true=>
  rw[h1] at p1
  cases h2:Cj ts with
  |false=>rw[h2] at p2;simp[Ci,-List.getD_eq_getElem?_getD,-List.map_map,f206,p1,p2,p5,p6,Bf]
  |true=>
   rw[h2] at p2
   by_cases hl:xs.length+ts.length≤16
   ·have hl': ¬ (16:Int)< (xs.length:Int)+(ts.length:Int):=by omega
    simp[Ci,-List.getD_eq_getElem?_getD,-List.map_map,f206,p1,p2,p3,w,hl,hl',Bf]
   ·have hl': (16:Int)< (xs.length:Int)+(ts.length:Int):=by omega
    simp[Ci,-List.getD_eq_getElem?_getD,-List.map_map,f206,p1,p2,p5,p6,w,hl,hl',Bf]
def Lj (n:Nat) (k:Int):Int:=if k<0 then k+n else k
def Baa (xs:List Bq) (at':Int) (t:Bq):Option (List Bq):=
 if Jw at'=true∧t.length≤40∧0≤Lj xs.length at'∧Lj xs.length at'≤(xs.length:Int) - 1 then some (xs.set (Lj xs.length at').toNat t) else none
theorem B4s (xs:List Bq) (k:Int) (t:Bq) (hx:xs.length≤1000000) (hk:Bqn k):Be (ev R) 208 [.d (Bf xs), .d (.int .i64 k), .d (.str t)]=
  some (if Cj xs=true then(match Baa xs k t with|some ys=> .tup [.d (Bf ys), .d (.bool true)] |none=> .tup [.d (Bf xs), .d (.bool false)]) else .tup [.d (Bf []), .d (.bool false)]):=Bb fun H=>by
 refine Bh (fn:=f208) rfl rfl ?_
 have p1:=Bkw xs (by omega)
 have q:=fun H=>Brg H xs hx
 have p2:Be (ev R) 255 [.d (.int .i64 k)]=some (.d (.bool (Jw k))):=Bd2 k
 have ft:List.take xs.length ((xs.map D.str).map V.d)=(xs.map D.str).map V.d:=List.take_of_length_le (by simp)
 cases h1:Cj xs with
 |false=>rw[h1] at p1;simp[Ci,-List.getD_eq_getElem?_getD,-List.map_map,f208,p1,Bf]
 |true=>
  rw[h1] at p1
  cases h2:Jw k with
  |false=>
   rw[h2] at p2
   have hr:Baa xs k t=none:=by unfold Baa;rw[h2];simp
   simp[Ci,-List.getD_eq_getElem?_getD,-List.map_map,f208,p1,p2,q,hr,ft,Bf]
  |true=>
   rw[h2] at p2
   by_cases ht:t.length≤40
   ·have ht': ¬ (40:Int)< (t.length:Int):=by omega
    have h2':=h2
    unfold Jw at h2'
    simp only[Bool.and_eq_true,decide_eq_true_eq] at h2'
    have w1:IntKind.i64.wrap (k+(xs.length:Int))=k+(xs.length:Int):=IntWalk.i64_in _ (by omega)
    have w2:IntKind.i64.wrap ((xs.length:Int) - 1)=(xs.length:Int) - 1:=IntWalk.i64_in _ (by omega)
    have p3:=Ps (Lj xs.length k) 0 ((xs.length:Int) - 1)
    have fe:Lj xs.length k=if k<0 then k+xs.length else k:=rfl
    by_cases hin:0≤Lj xs.length k∧Lj xs.length k≤(xs.length:Int) - 1
    ·obtain⟨j,hj⟩: ∃j:Nat,Lj xs.length k=(j:Int):=⟨(Lj xs.length k).toNat,by omega⟩
     have hr:Baa xs k t=some (xs.set j t):=by unfold Baa;rw[if_pos ⟨h2,ht,hin.1,hin.2⟩,hj];rfl
     rw[hj] at p3 fe hin
     have hjl:j<xs.length:=by omega
     have hjl': (j:Int)< (xs.length:Int):=by omega
     have hj0: (0:Int)≤(j:Int):=by omega
     have hj1: (j:Int)≤(xs.length:Int) - 1:=by omega
     have w3:IntKind.i64.wrap (j:Int)=(j:Int):=IntWalk.i64_in _ (by omega)
     have hb: (decide ((j:Int)≥0) &&decide ((j:Int)≤(xs.length:Int) - 1))=true:=by rw[Bool.and_eq_true,decide_eq_true_eq,decide_eq_true_eq];exact hin
     rw[hb] at p3
     have hneg: ¬ (j:Int)<0:=by omega
     have sf:=Bcp D.str xs j t
     have f6: (xs.set j t).length=xs.length:=List.length_set
     have f4:List.take xs.length (List.map V.d (List.map D.str (xs.set j t)))=List.map V.d (List.map D.str (xs.set j t)):=List.take_of_length_le (by simp)
     rw[hr]
     dsimp only
     generalize xs.set j t=zs at*
     by_cases hn:k<0
     ·rw[if_pos hn] at fe
      simp[Ci,-List.getD_eq_getElem?_getD,-List.map_map,f208,p1,p2,q,ht',hn,w1,w2,w3,←fe,p3,hjl,hjl',hj0,hj1,sf,f6,f4,ft,Bf]
     ·rw[if_neg hn] at fe
      subst fe
      simp[Ci,-List.getD_eq_getElem?_getD,-List.map_map,f208,p1,p2,q,ht',hneg,w1,w2,w3,p3,hjl,hjl',hj0,hj1,sf,f6,f4,ft,Bf]
    ·have hr:Baa xs k t=none:=by unfold Baa;rw[if_neg (fun h=>hin ⟨h.2.2.1,h.2.2.2⟩)]
     have hb: (decide (Lj xs.length k≥0) &&decide (Lj xs.length k≤(xs.length:Int) - 1))=false:=by
      rw[←Bool.not_eq_true,Bool.and_eq_true,decide_eq_true_eq,decide_eq_true_eq];exact hin
     rw[hb] at p3
     by_cases hn:k<0
     ·rw[fe,if_pos hn] at p3
      simp[Ci,-List.getD_eq_getElem?_getD,-List.map_map,f208,p1,p2,q,ht',hn,w1,w2,p3,hr,ft,Bf]
     ·rw[fe,if_neg hn] at p3
      simp[Ci,-List.getD_eq_getElem?_getD,-List.map_map,f208,p1,p2,q,ht',hn,w1,w2,p3,hr,ft,Bf]
   ·have ht': (40:Int)< (t.length:Int):=by omega
    have hr:Baa xs k t=none:=by unfold Baa;rw[if_neg (fun h=>ht h.2.1)]
    simp[Ci,-List.getD_eq_getElem?_getD,-List.map_map,f208,p1,p2,q,ht',hr,ft,Bf]
def Mt (xs ts:List Bq):List Bq:=ts.foldl Bc6 xs
theorem Bsh (xs:List Bq) (t:Bq): (Bc6 xs t).length≤xs.length+1:=by
 unfold Bc6
 split
 ·omega
 ·rw[Gs];omega
theorem Bb9 (xs ts:List Bq): (Mt xs ts).length≤xs.length+ts.length:=by
 unfold Mt
 induction ts generalizing xs with
 |nil=>simp
 |cons t ts ih=>
  have h1:=ih (Bc6 xs t)
  have h2:=Bsh xs t
  simp only[List.foldl_cons,List.length_cons]
  omega
theorem Bd4 (xs ts:List Bq) (i:Nat) (hi:i<ts.length):Bc6 (Mt xs (ts.take i)) (ts.getD i [])=Mt xs (ts.take (i+1)):=by
 rw[Js ts i [] hi];simp only[Mt,List.foldl_append,List.foldl_cons,List.foldl_nil]
theorem B4y (xs ts:List Bq) (hx:xs.length≤500000) (ht:ts.length≤500000):Be (ev R) 217 [.d (Bf xs), .d (Bf ts)]=
  some (.d (Bf (if Gl xs=true∧Gl ts=true then Mt xs ts else[]))):=Bb fun H=>by
 refine Bh (fn:=f217) rfl rfl ?_
 have p1:=Bhv xs (by omega)
 have p2:=Bhv ts (by omega)
 have p5:=Bc4 xs (by omega)
 have p6:=Uv xs (by omega)
 cases h1:Gl xs with
 |false=>rw[h1] at p1;simp[Ci,-List.getD_eq_getElem?_getD,-List.map_map,f217,p1,p2,Bf]
 |true=>
  rw[h1] at p1
  cases h2:Gl ts with
  |false=>rw[h2] at p2;simp[Ci,-List.getD_eq_getElem?_getD,-List.map_map,f217,p1,p2,Bf]
  |true=>
   rw[h2] at p2
   obtain⟨o,e',X',he,rfl,rfl,g5⟩:=(C8 (F:=Bp (ev R) R.glob (Bc H) Bg Be4) (lv:=[1,5,6]) ts.length
    (fun i e X=>X=H∧e.get 1= .d (Bf ts)∧e.get 5= .d (Bf (Mt xs (ts.take i)))∧e.get 6= .d (.int .i64 i))
    (fun o e X=>o= .exit 0∧X=H∧e.get 5= .d (Bf (Mt xs ts)))
    (by
     rintro e X ⟨rfl,g1,g5,g6⟩
     rw[List.take_length] at g5
     simp[Ci,-List.getD_eq_getElem?_getD,-List.map_map,Be4,g1,g5,g6,Bf])
    (by
     rintro i e X hi ⟨rfl,g1,g5,g6⟩
     have c: (i:Int)< (ts.length:Int):=by omega
     have g:=Dj ts i hi
     have w1:IntKind.i64.wrap ((i:Int)+1)=((i+1:Nat):Int):=by rw[IntWalk.i64_in _ (by omega)];rfl
     have hl:=Bb9 xs (ts.take i)
     have hl2: (ts.take i).length≤ts.length:=by rw[List.length_take];omega
     have p3:=Byx (Mt xs (ts.take i)) (ts.getD i []) (by omega)
     rw[Bd4 xs ts i hi] at p3
     generalize Mt xs (ts.take i)=A at*
     generalize Mt xs (ts.take (i+1))=B at*
     simp[Ci,-List.getD_eq_getElem?_getD,-List.map_map,Be4,g1,g5,g6,c,hi,g,w1,p3,Bf])
    ts.length 0 [(1, .d (Bf ts)),(5, .d (Bf xs)),(6, .d (.int .i64 0))] H (by omega) ⟨rfl,rfl,rfl,rfl⟩).out
   simp[Ci,-List.getD_eq_getElem?_getD,-List.map_map,f217,p1,p2,p5,p6,he,g5,Bf]
theorem B4v (xs ts:List Bq) (hx:xs.length≤500000) (ht:ts.length≤500000):Be (ev R) 212 [.d (Bf xs), .d (Bf ts)]=
  some (if Gl xs=true then(if Cj ts=true∧(Mt xs ts).length≤16 then .tup [.d (Bf (Mt xs ts)), .d (.int .i64 ((Mt xs ts).length - xs.length)), .d (.bool true)] else .tup [.d (Bf xs), .d (.int .i64 0), .d (.bool false)]) else .tup [.d (Bf []), .d (.int .i64 0), .d (.bool false)]):=Bb fun H=>by
 refine Bh (fn:=f212) rfl rfl ?_
 have p1:=Bhv xs (by omega)
 have p2:=Bkw ts (by omega)
 have p5:=Bc4 xs (by omega)
 have p6:=Uv xs (by omega)
 cases h1:Gl xs with
 |false=>rw[h1] at p1;simp[Ci,-List.getD_eq_getElem?_getD,-List.map_map,f212,p1,p2,Bf]
 |true=>
  rw[h1] at p1
  cases h2:Cj ts with
  |false=>rw[h2] at p2;simp[Ci,-List.getD_eq_getElem?_getD,-List.map_map,f212,p1,p2,p5,p6,Bf]
  |true=>
   rw[h2] at p2
   obtain⟨o,e',X',he,rfl,rfl,g0,g7⟩:=(C8 (F:=Bp (ev R) R.glob (Bc H) Bg Be3) (lv:=[0,1,7,8]) ts.length
    (fun i e X=>X=H∧e.get 0= .d (Bf xs)∧e.get 1= .d (Bf ts)∧e.get 7= .d (Bf (Mt xs (ts.take i)))∧e.get 8= .d (.int .i64 i))
    (fun o e X=>o= .exit 0∧X=H∧e.get 0= .d (Bf xs)∧e.get 7= .d (Bf (Mt xs ts)))
    (by
     rintro e X ⟨rfl,g0,g1,g5,g6⟩
     rw[List.take_length] at g5
     simp[Ci,-List.getD_eq_getElem?_getD,-List.map_map,Be3,g0,g1,g5,g6,Bf])
    (by
     rintro i e X hi ⟨rfl,g0,g1,g5,g6⟩
     have c: (i:Int)< (ts.length:Int):=by omega
     have g:=Dj ts i hi
     have w1:IntKind.i64.wrap ((i:Int)+1)=((i+1:Nat):Int):=by rw[IntWalk.i64_in _ (by omega)];rfl
     have hl:=Bb9 xs (ts.take i)
     have hl2: (ts.take i).length≤ts.length:=by rw[List.length_take];omega
     have p3:=Byx (Mt xs (ts.take i)) (ts.getD i []) (by omega)
     rw[Bd4 xs ts i hi] at p3
     generalize Mt xs (ts.take i)=A at*
     generalize Mt xs (ts.take (i+1))=B at*
     simp[Ci,-List.getD_eq_getElem?_getD,-List.map_map,Be3,g0,g1,g5,g6,c,hi,g,w1,p3,Bf])
    ts.length 0 [(0, .d (Bf xs)),(1, .d (Bf ts)),(7, .d (Bf xs)),(8, .d (.int .i64 0))] H (by omega) ⟨rfl,rfl,rfl,rfl,rfl⟩).out
   have hal:=Bb9 xs ts
   generalize Mt xs ts=A at*
   have w:IntKind.i64.wrap ((A.length:Int) - (xs.length:Int))=(A.length:Int) - (xs.length:Int):=IntWalk.i64_in _ (by omega)
   by_cases hl:A.length≤16
   ·have hl': ¬ (16:Int)< (A.length:Int):=by omega
    simp[Ci,-List.getD_eq_getElem?_getD,-List.map_map,f212,p1,p2,p5,p6,he,g0,g7,w,hl,hl',Bf]
   ·have hl': (16:Int)< (A.length:Int):=by omega
    simp[Ci,-List.getD_eq_getElem?_getD,-List.map_map,f212,p1,p2,p5,p6,he,g0,g7,w,hl,hl',Bf]
structure EnSm (e:En):Prop where
 list:e.list.length≤1000000
 scores:e.scores.length≤1000000
 fields:e.fields.length≤1000000
theorem Bwn (e:En) (h:EnSm e):Be (ev R) 52 [.d (Fy e)]=some (.d (Fy e)):=Bb fun H=>by
 refine Bh (fn:=f52) rfl rfl ?_
 obtain⟨key,till,kind,text,list,scores,fields⟩:=e
 obtain⟨h1,h2,h3⟩:=h
 dsimp only at h1 h2 h3
 have p5:=Bc4 list h1
 have p6:=Uv list h1
 have r2:scores.length*24≤Cq:=by unfold Cq;omega
 have r3:fields.length*32≤Cq:=by unfold Cq;omega
 simp[Ci,-List.getD_eq_getElem?_getD,-List.map_map,f52,p5,p6,r2,r3,Bf]
theorem B4n (e:En) (h:EnSm e):Be (ev R) 173 [.d (Fy e)]=some (.d (.bool (decide (e.kind≠1) &&decide (e.text=[]) &&decide (e.list.length+e.scores.length+e.fields.length=0)))):=Bb fun H=>by
 refine Bh (fn:=f173) rfl rfl ?_
 obtain⟨h1,h2,h3⟩:=h
 have w1:IntKind.i64.wrap ((e.list.length:Int)+(e.scores.length:Int))=(e.list.length:Int)+(e.scores.length:Int):=IntWalk.i64_in _ (by omega)
 have w2:IntKind.i64.wrap ((e.list.length:Int)+(e.scores.length:Int)+(e.fields.length:Int))=(e.list.length:Int)+(e.scores.length:Int)+(e.fields.length:Int):=IntWalk.i64_in _ (by omega)
 have w3: ((e.list.length:Int)+(e.scores.length:Int)+(e.fields.length:Int)=0)=(e.list.length+e.scores.length+e.fields.length=0):=by
  apply propext;omega
 by_cases a:e.kind=1
 ·simp[Ci,-List.getD_eq_getElem?_getD,-List.map_map,f173,eq_true a]
 ·by_cases b:e.text=[]
  ·generalize hz:e.list.length+e.scores.length+e.fields.length=z at*
   simp[Ci,-List.getD_eq_getElem?_getD,-List.map_map,f173,eq_false a,eq_true b,w1,w2,w3]
  ·simp[Ci,-List.getD_eq_getElem?_getD,-List.map_map,f173,eq_false a,eq_false b]
def cpH (b:Ba) (n:Int) (zs:List En) (H:Hp):Hp:=
 match zs with
 | []=> [.row 0 2 [.d (Df b)], .row 0 2 [.agg [.d (.int .i64 0), .nils 7]], .row 0 2 [.agg [.d (.int .i64 n), .nils 7]]]
 |z::r=> [.row 0 2 [.d (Df b)], .row 0 2 [.agg [.d (.int .i64 0), .nils 7]], .row 0 2 [.agg [.d (.int .i64 n), .slc (Bc H+3) r.length 0 (r.length+1)]], .row r.length 7 (((z::r).map Fy).map V.d)]
def cpV (b:Ba) (H:Hp):V:=match b.ents with
 | []=> .agg [.d (.int .i64 b.now), .nils 7]
 |z::r=> .agg [.d (.int .i64 b.now), .slc (Bc H) 0 0 (r.length+1)]
def cpB (b:Ba) (H:Hp):Hp:=match b.ents with
 | []=>H
 |z::r=>ap H [.row 0 7 (((z::r).map Fy).map V.d)]
theorem Bn8 (b:Ba) (hb:b.ents.length≤1000000) (h: ∀e∈b.ents,EnSm e) (H:Hp):ev R 41 [.d (Df b)] H=some (cpV b H,cpB b H):=by
 refine Bh (fn:=f41) rfl rfl ?_
 obtain⟨o,e',X',he,rfl,rfl,g2,g3⟩:=(C8 (F:=Bp (ev R) R.glob (Bc H) Bg Bdh) (lv:=[1,2,3,4]) b.ents.length
  (fun i e X=>X=ap H (cpH b b.now (b.ents.take i) H)∧e.get 1= .ptr (Bc H) 0 0 0∧e.get 2= .ptr (Bc H+1) 0 0 0∧e.get 3= .ptr (Bc H+2) 0 0 0∧e.get 4= .d (.int .i64 i))
  (fun o e X=>o= .exit 0∧X=ap H (cpH b b.now b.ents H)∧e.get 2= .ptr (Bc H+1) 0 0 0∧e.get 3= .ptr (Bc H+2) 0 0 0)
  (by
   rintro e X ⟨rfl,g1,g2,g3,g4⟩
   rw[List.take_length]
   cases hz:b.ents with
   |nil=>
    have hl:b.ents.length=0:=by rw[hz];rfl
    rw[hl] at g4
    simp[Ci,-List.getD_eq_getElem?_getD,-List.map_map,Bdh,g1,g2,g3,g4,cpH,hl]
   |cons z r=>
    have hl:b.ents.length=r.length+1:=by rw[hz];rfl
    rw[hl] at g4
    simp[Ci,-List.getD_eq_getElem?_getD,-List.map_map,Bdh,g1,g2,g3,g4,cpH,hl])
  (by
   rintro i e X hi ⟨rfl,g1,g2,g3,g4⟩
   have c: (i:Int)< (b.ents.length:Int):=by omega
   have g:=Ja b.ents i hi
   have p:=Bwn (b.ents.getD i default) (h _ (Gr hi))
   have w1:IntKind.i64.wrap ((i:Int)+1)=((i+1:Nat):Int):=by rw[IntWalk.i64_in _ (by omega)];rfl
   rw[Js b.ents i default hi]
   have hl: (b.ents.take i).length=i:=by rw[List.length_take];omega
   generalize b.ents.getD i default=x at*
   generalize b.ents.take i=zs at*
   cases zs with
   |nil=>
    obtain rfl:i=0:=by simpa using hl.symm
    have w0:IntKind.i64.wrap 1=1:=by rw[IntWalk.i64_in _ (by omega)]
    simp[Ci,-List.getD_eq_getElem?_getD,-List.map_map,Bdh,g1,g2,g3,g4,c,hi,g,p,w0,cpH,Cq]
   |cons z r=>
    obtain rfl:i=r.length+1:=by simpa using hl.symm
    have rm: (r.length+1+1)*120≤Cq:=by unfold Cq;omega
    have c': (r.length:Int)+1< (b.ents.length:Int):=by omega
    have w0:IntKind.i64.wrap ((r.length:Int)+1+1)=(r.length:Int)+1+1:=IntWalk.i64_in _ (by omega)
    have c0: (0:Int)≤(r.length:Int)+1:=by omega
    have c1: ((r.length:Int)+1).toNat=r.length+1:=by omega
    simp[Ci,-List.getD_eq_getElem?_getD,-List.map_map,Bdh,g1,g2,g3,g4,c',c0,c1,hi,g,p,w0,cpH,rm])
  b.ents.length 0 [(1, .ptr (Bc H) 0 0 0),(2, .ptr (Bc H+1) 0 0 0),(3, .ptr (Bc H+2) 0 0 0),(4, .d (.int .i64 0))] (ap H (cpH b b.now [] H)) (by omega) ⟨rfl,rfl,rfl,rfl,rfl⟩).out
 obtain⟨now,ents⟩:=b
 cases ents with
 |nil=>
  simp only[cpH] at he
  simp[Ci,-List.getD_eq_getElem?_getD,-List.map_map,f41,he,g2,g3,cpV,cpB,Uq]
 |cons z r=>
  simp only[cpH] at he
  simp[Ci,-List.getD_eq_getElem?_getD,-List.map_map,f41,he,g2,g3,cpV,cpB,Uq]
theorem Bya (b:Ba) (H:Hp):fzV (Bc H) (cpB b H) (cpV b H)=some (.d (Df b)):=by
 obtain⟨now,ents⟩:=b
 cases ents with
 |nil=>simp[Ci,-List.getD_eq_getElem?_getD,-List.map_map,cpV,cpB,Fx]
 |cons z r=>
  simp[Ci,-List.getD_eq_getElem?_getD,-List.map_map,cpV,cpB]
  rfl
theorem Bxf (b:Ba) (H:Hp):Cx (cpB b H) (Bc H)=H:=by
 obtain⟨now,ents⟩:=b
 cases ents with
 |nil=>simp[Ci,-List.getD_eq_getElem?_getD,-List.map_map,cpB]
 |cons z r=>simp[Ci,-List.getD_eq_getElem?_getD,-List.map_map,cpB]
structure BaSm (b:Ba):Prop where
 len:b.ents.length≤1000000
 each: ∀e∈b.ents,EnSm e
theorem J8 {es:List En} {t:Bq} (h:Fg es t=true):F4 es t<es.length:=by
 unfold Fg at h
 rw[Bool.and_eq_true,decide_eq_true_eq] at h
 exact h.1
def Bw (b:Ba) (t:Bq):En:=if Fg b.ents t=true then b.ents.getD (F4 b.ents t) default else⟨t,0,0,[],[],[],[]⟩
theorem Gz (b:Ba) (t:Bq) (hb:BaSm b):Be (ev R) 27 [.d (Df b), .d (.str t)]=some (.d (Fy (Bw b t))):=Bb fun H=>by
 refine Bh (fn:=f27) rfl rfl ?_
 have p1:=Box b t hb.len
 have hl:=J8 (es:=b.ents) (t:=t)
 unfold Bw
 cases h:Fg b.ents t with
 |false=>
  rw[h] at p1
  simp[Ci,-List.getD_eq_getElem?_getD,-List.map_map,f27,p1]
 |true=>
  rw[h] at p1
  have hl:=hl h
  have c: (F4 b.ents t:Int)< (b.ents.length:Int):=by omega
  have c0: (0:Int)≤(F4 b.ents t:Int):=by omega
  have g:=Ja b.ents (F4 b.ents t) hl
  have p2:=Bwn (b.ents.getD (F4 b.ents t) default) (hb.each _ (Gr hl))
  simp[Ci,-List.getD_eq_getElem?_getD,-List.map_map,f27,p1,hl,c,c0,g,p2]
def Cb (b:Ba) (t:Bq):Ba:=if Fg b.ents t=true then⟨b.now,Gw b.ents (F4 b.ents t)⟩ else b
theorem Bo1 (b:Ba) (t:Bq) (hb:BaSm b):Be (ev R) 40 [.d (Df b), .d (.str t)]=some (.d (Df (Cb b t))):=Bb fun H=>by
 refine Bh (fn:=f40) rfl rfl ?_
 have p0:=Bn8 b hb.len hb.each
 have z0:=Bya b
 have t0:=Bxf b
 have p1:=Box b t hb.len
 have hl:=J8 (es:=b.ents) (t:=t)
 have hbl:=hb.len
 unfold Cb
 cases h:Fg b.ents t with
 |false=>
  rw[h] at p1
  simp[Ci,-List.getD_eq_getElem?_getD,-List.map_map,f40,p0, ↓z0, ↓t0,p1]
 |true=>
  rw[h] at p1
  have hl:=hl h
  obtain⟨now,ents⟩:=b
  dsimp only at*
  generalize F4 ents t=k at*
  have hk:k≤ents.length:=by omega
  have hk': (k:Int)≤(ents.length:Int):=by omega
  have hk0: (0:Int)≤(k:Int):=by omega
  have w1:IntKind.i64.wrap ((k:Int)+1)=((k+1:Nat):Int):=by rw[IntWalk.i64_in _ (by omega)];rfl
  have hk1: (k:Int)+1≤(ents.length:Int):=by omega
  have hk2:k+1≤ents.length:=by omega
  have hk3: (0:Int)≤(k:Int)+1:=by omega
  have hk4: ((k:Int)+1).toNat=k+1:=by omega
  have r1:k*120≤Cq:=by unfold Cq;omega
  have r3: (k+(ents.length - (k+1)))*120≤Cq:=by unfold Cq;omega
  have mn:min k ents.length=k:=by omega
  have f1:=Xb Fy ents k
  have f2:=Bgj Fy ents k hl
  have f3:=Brc ents k hl
  simp[Ci,-List.getD_eq_getElem?_getD,-List.map_map,f40,p0, ↓z0, ↓t0,p1,Da,hl,hk,hk',hk0,w1,hk1,hk2,hk3,hk4,r1,r3,mn,f1,f2,f3]
def M8 (e:En):Bool:=decide (e.kind≠1) &&decide (e.text=[]) &&decide (e.list.length+e.scores.length+e.fields.length=0)
def Mf (b:Ba) (e:En):Bool:=Gn e&& !(decide (e.till≠0) &&decide (e.till≤b.now)) &&decide ((Cb b e.key).ents.length<12)
def Ls (b:Ba) (e:En):Ba×Bool:=
 if M8 e=true then(Cb b e.key,true)
 else if Mf b e=true then(⟨b.now,Dt (Cb b e.key).ents (F4 (Cb b e.key).ents e.key) e⟩,true)
 else(b,false)
theorem Jy (b:Ba) (t:Bq): (Cb b t).now=b.now:=by unfold Cb;split<;>rfl
theorem S9 {b:Ba} {t:Bq} {e:En} (h:e∈(Cb b t).ents):e∈b.ents:=by
 unfold Cb at h
 split at h
 ·simp only[Gw,List.mem_append] at h
  rcases h with h|h
  ·exact List.mem_of_mem_take h
  ·exact List.mem_of_mem_drop h
 ·exact h
theorem Qz (b:Ba) (t:Bq): (Cb b t).ents.length≤b.ents.length:=by
 unfold Cb
 split
 ·rename_i h
  have:=J8 h
  simp only[Md _ _ this];omega
 ·exact Nat.le_refl _
theorem Bws {b:Ba} (hb:BaSm b) (t:Bq):BaSm (Cb b t):=⟨Nat.le_trans (Qz b t) hb.len,fun e he=>hb.each e (S9 he)⟩
theorem B5d (b:Ba) (e:En) (hb:BaSm b) (he:EnSm e) (hf:EnFit e):Be (ev R) 67 [.d (Df b), .d (Fy e)]=some (.tup [.d (Df (Ls b e).1), .d (.bool (Ls b e).2)]):=Bb fun H=>by
 refine Bh (fn:=f67) rfl rfl ?_
 have p0:=Bn8 b hb.len hb.each
 have z0:=Bya b
 have t0:=Bxf b
 have p1:=Bo1 b e.key hb
 have p2:Be (ev R) 173 [.d (Fy e)]=some (.d (.bool (M8 e))):=B4n e he
 have p3:=Bb (cl:=ev R) fun H=>B1p H e hf
 have p4:=Box (Cb b e.key) e.key (Bws hb e.key).len
 have p5:=Bwn e he
 have hn:=Jy b e.key
 have hdl:=Qz b e.key
 have hbl:=hb.len
 unfold Ls
 cases h1:M8 e with
 |true=>
  rw[h1] at p2
  simp[Ci,-List.getD_eq_getElem?_getD,-List.map_map,f67,p1,p2]
 |false=>
  rw[h1] at p2
  unfold Mf
  cases h2:Gn e with
  |false=>
   rw[h2] at p3
   simp[Ci,-List.getD_eq_getElem?_getD,-List.map_map,f67,p0, ↓z0, ↓t0,p1,p2,p3]
  |true=>
   rw[h2] at p3
   by_cases h3:e.till≠0∧e.till≤b.now
   ·have h30: (e.till=0)=False:=eq_false h3.1
    have h31: (e.till≤b.now)=True:=eq_true h3.2
    simp[Ci,-List.getD_eq_getElem?_getD,-List.map_map,f67,p0, ↓z0, ↓t0,p1,p2,p3,h30,h31]
   ·by_cases h4: (Cb b e.key).ents.length<12
    ·have h4': ((Cb b e.key).ents.length:Int)<12:=by omega
     have h4'': ¬ (12:Int)≤((Cb b e.key).ents.length:Int):=by omega
     have hk:=Bj4 (Cb b e.key).ents e.key
     generalize Cb b e.key=C at*
     obtain⟨now,ents⟩:=C
     dsimp only at*
     subst hn
     generalize F4 ents e.key=k at*
     have hk': (k:Int)≤(ents.length:Int):=by omega
     have hk0: (0:Int)≤(k:Int):=by omega
     have r1:k*120≤Cq:=by unfold Cq;omega
     have r2: (k+1)*120≤Cq:=by unfold Cq;omega
     have r3: (k+1+(ents.length - k))*120≤Cq:=by unfold Cq;omega
     have mn:min k ents.length=k:=by omega
     have f1:=Xi Fy ents k e
     have f2:=Xj Fy ents k e hk
     have f3:=Bfb ents k e hk
     by_cases h5:e.till=0
     ·simp[Ci,-List.getD_eq_getElem?_getD,-List.map_map,f67,p0, ↓z0, ↓t0,p1,p2,p3,p4,p5,eq_true h5,h4,h4',h4'',Da,hk,hk',hk0,r1,r2,r3,mn,f1,f2,f3]
     ·have h6: (e.till≤b.now)=False:=eq_false (fun h=>h3 ⟨h5,h⟩)
      simp[Ci,-List.getD_eq_getElem?_getD,-List.map_map,f67,p0, ↓z0, ↓t0,p1,p2,p3,p4,p5,eq_false h5,h6,h4,h4',h4'',Da,hk,hk',hk0,r1,r2,r3,mn,f1,f2,f3]
    ·have h4': ¬ ((Cb b e.key).ents.length:Int)<12:=by omega
     have h4'': (12:Int)≤((Cb b e.key).ents.length:Int):=by omega
     by_cases h5:e.till=0
     ·simp[Ci,-List.getD_eq_getElem?_getD,-List.map_map,f67,p0, ↓z0, ↓t0,p1,p2,p3,eq_true h5,h4,h4',h4'']
     ·have h6: (e.till≤b.now)=False:=eq_false (fun h=>h3 ⟨h5,h⟩)
      simp[Ci,-List.getD_eq_getElem?_getD,-List.map_map,f67,p0, ↓z0, ↓t0,p1,p2,p3,eq_false h5,h6,h4,h4',h4'']
end Go.Proofs.YtpajcoanfkeibaaGreatDoor.Code

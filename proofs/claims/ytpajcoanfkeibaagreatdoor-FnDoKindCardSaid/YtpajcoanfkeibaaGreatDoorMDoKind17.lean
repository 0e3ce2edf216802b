/- Lemmas (several texts in one). -/
import Derived.Test.YtpajcoanfkeibaaGreatDoorMDoKind6
import Derived.Test.YtpajcoanfkeibaaGreatDoorMDoKind14
import Derived.Test.YtpajcoanfkeibaaGreatDoorMDoKind16
set_option maxRecDepth 100000
set_option linter.unusedSimpArgs false
set_option linter.unusedVariables false
open List renaming getD_eq_getElem?_getD → Cda, take_of_length_le → Cdg, map_map → Cdb, length_take → Cdn, take_length → Cdm, length_cons → Cdc
open Bool renaming and_eq_true → Cdv
namespace Go.Proofs.YtpajcoanfkeibaaGreatDoor.Code
open Go Go.Ev Go.Proofs
theorem Blq (xs:List Br) (hx:xs.length≤9223372036854775807):Be (ev R) 60 [.d (Bf xs)]=some (.d (.bool (Ch xs))):=Bb fun H=>Bfk H xs hx
theorem Bz7 (xs:List Br) (hx:xs.length≤1000000):Be (ev R) 256 [.d (Bf xs)]=some (.d (Bf xs.reverse)):=Bb fun H=>by
 refine Bh (fn:=f256) rfl rfl ?_
 have hyl:xs.reverse.length=xs.length:=List.length_reverse
 have hyg: ∀i,i<xs.length→xs.reverse.getD i []=xs.getD (xs.length - 1 - i) []:=fun i hi=>by
  rw[Cda,List.getElem?_reverse (by omega),←Cda]
 generalize xs.reverse=ys at*
 obtain⟨o,e',X',he,rfl,rfl,g3⟩:=(C9 (F:=Bq (ev R) R.glob (Bc H) Bg Bfr) (lv:=[0,3,4]) xs.length
  (fun i e X=> ∃zs,zs=ys.take i∧zs.length=i∧X=ap H [.row zs.length 1 ((zs.map D.str).map V.d)]∧e.get 0= .d (Bf xs)∧e.get 3= .slc (Bc H) zs.length 0 zs.length∧e.get 4= .d (.int .i64 ((xs.length:Int) - 1 - i)))
  (fun o e X=>o= .exit 0∧X=ap H [.row xs.length 1 ((ys.map D.str).map V.d)]∧e.get 3= .slc (Bc H) xs.length 0 xs.length)
  (by
   rintro e X ⟨zs,hz,hl,rfl,g0,g3,g4⟩
   have h1:zs=ys:=by rw[hz];exact Cdg (by omega)
   subst h1
   have c: ¬ (xs.length:Int)≤(xs.length:Int) - 1:=by omega
   rw[hyl] at g3
   simp[Cg,-Cda,-Cdb,Bfr,g0,g3,g4,c,hyl,Bf])
  (by
   rintro i e X hi ⟨zs,hz,hl,rfl,g0,g3,g4⟩
   have c: (0:Int)≤(xs.length:Int) - 1 - (i:Int):=by omega
   obtain⟨k,hk⟩: ∃k:Nat,(k:Int)=(xs.length:Int) - 1 - (i:Int):=⟨xs.length - 1 - i,by omega⟩
   have hkl:k<xs.length:=by omega
   have c0: (0:Int)≤(k:Int):=by omega
   have c1: (k:Int)< (xs.length:Int):=by omega
   have g:=Dk xs k hkl
   have w1:IntKind.i64.wrap ((k:Int) - 1)=(xs.length:Int) - 1 - ((i:Int)+1):=by rw[IntWalk.i64_in _ (by omega)];omega
   rw[←hk] at g4
   have r: (i+1)*16≤Ct:=by unfold Ct;omega
   have hn:ys.take (i+1)=zs++[xs.getD k []]:=by
    have:xs.length - 1 - i=k:=by omega
    rw[J8 ys i [] (by omega),←hz,hyg i hi,this]
   simp[Cg,-Cda,-Cdb,Bfr,g0,g3,g4,c0,c1,hkl,g,w1,r,hn,hl,Bf])
  xs.length 0 [(0, .d (Bf xs)),(3, .slc (Bc H) 0 0 0),(4, .d (.int .i64 ((xs.length:Int) - 1)))] (ap H [.row 0 1 []]) (by omega) ⟨[],by simp,rfl,rfl,rfl,rfl,by show V.d (D.int IntKind.i64 ((xs.length:Int) - 1))=_;simp⟩).out
 have w:IntKind.i64.wrap ((xs.length:Int) - 1)=(xs.length:Int) - 1:=IntWalk.i64_in _ (by omega)
 have ft:List.take xs.length ((ys.map D.str).map V.d)=(ys.map D.str).map V.d:=Cdg (by simp;omega)
 simp[Cg,-Cda,-Cdb,f256,he,g3,w,ft,hyl,Bf]
def Tj (xs:List Br) (f t:Int):List Br:=((xs.take (J2 xs.length f t).2.toNat).drop (J2 xs.length f t).1.toNat)
def Ju (n:Int):Bool:=decide (-1000000000≤n) &&decide (n≤1000000000)
theorem Bbd (n:Nat) (f t:Int):0≤(J2 n f t).1∧(J2 n f t).1≤(J2 n f t).2∧(J2 n f t).2≤n:=by
 unfold J2
 dsimp only
 repeat' split
 all_goals dsimp only
 all_goals omega
theorem B6n (xs:List Br) (f t:Int) (hx:xs.length≤1000000):Be (ev R) 210 [.d (Bf xs), .d (.int .i64 f), .d (.int .i64 t)]=
  some (.d (Bf (if Ch xs=true∧Ju f=true∧Ju t=true then Tj xs f t else[]))):=Bb fun H=>by
 refine Bh (fn:=f210) rfl rfl ?_
 have p1:=Blq xs (by omega)
 have p2:Be (ev R) 255 [.d (.int .i64 f)]=some (.d (.bool (Ju f))):=Bep f
 have p3:Be (ev R) 255 [.d (.int .i64 t)]=some (.d (.bool (Ju t))):=Bep t
 cases h1:Ch xs with
 |false=>rw[h1] at p1;simp[Cg,-Cda,-Cdb,f210,p1,Bf]
 |true=>
  cases h2:Ju f with
  |false=>rw[h1] at p1;rw[h2] at p2;simp[Cg,-Cda,-Cdb,f210,p1,p2,Bf]
  |true=>
   cases h3:Ju t with
   |false=>rw[h1] at p1;rw[h2] at p2;rw[h3] at p3;simp[Cg,-Cda,-Cdb,f210,p1,p2,p3,Bf]
   |true=>
    rw[h1] at p1;rw[h2] at p2;rw[h3] at p3
    unfold Ju at h2 h3
    simp only[Cdv,decide_eq_true_eq] at h2 h3
    have p4:=Bs6 xs.length f t (by omega) h2 h3
    obtain⟨b1,b2,b3⟩:=Bbd xs.length f t
    have hr:Tj xs f t=((xs.take (J2 xs.length f t).2.toNat).drop (J2 xs.length f t).1.toNat):=rfl
    generalize(J2 xs.length f t).1=a at*
    generalize(J2 xs.length f t).2=b at*
    obtain⟨A,rfl⟩: ∃A:Nat,a=(A:Int):=⟨a.toNat,by omega⟩
    obtain⟨B,rfl⟩: ∃B:Nat,b=(B:Int):=⟨b.toNat,by omega⟩
    simp only[Int.toNat_natCast] at hr
    have b5:A≤B:=by omega
    have b6:B≤xs.length:=by omega
    have hd:List.drop A (List.take B (List.map D.str xs))=(Tj xs f t).map D.str:=by rw[hr];simp only[List.map_drop,List.map_take]
    have hl: (Tj xs f t).length≤1000000:=by rw[hr];simp only[List.length_drop,Cdn];omega
    have p5:=Bdm (Tj xs f t) hl
    have p6:=Uy (Tj xs f t) hl
    simp[Cg,-Cda,-Cdb,f210,p1,p2,p3,p4,Db,b1,b2,b3,b5,b6,hd,p5,p6,Bf]
theorem B6k (xs:List Br) (f:Bool) (hx:xs.length≤1000000):Be (ev R) 207 [.d (Bf xs), .d (.bool f)]=
  some (if Ch xs=true∧0<xs.length then(if f=true then .tup [.d (Bf xs.tail), .d (.str (xs.getD 0 [])), .d (.bool true)] else .tup [.d (Bf (xs.take (xs.length - 1))), .d (.str (xs.getD (xs.length - 1) [])), .d (.bool true)]) else .tup [.d (Bf []), .d (.str []), .d (.bool false)]):=Bb fun H=>by
 refine Bh (fn:=f207) rfl rfl ?_
 have p1:=Blq xs (by omega)
 cases h1:Ch xs with
 |false=>rw[h1] at p1;simp[Cg,-Cda,-Cdb,f207,p1,Bf]
 |true=>
  rw[h1] at p1
  by_cases h0:0<xs.length
  ·have h0': ¬ (xs.length:Int)=0:=by omega
   have h0'': (0:Int)< (xs.length:Int):=by omega
   have h1': (1:Int)≤(xs.length:Int):=by omega
   have h1'':1≤xs.length:=by omega
   have hne: ¬xs.length=0:=by omega
   cases f with
   |true=>
    have p5:=Bdm xs.tail (by simp;omega)
    have p6:=Uy xs.tail (by simp;omega)
    simp only[Bf,List.map_tail] at p5 p6
    have g:=Dk xs 0 h0
    simp[Cg,-Cda,-Cdb,f207,p1,h0,h0',h0'',h1',h1'',eq_false hne,g,Db,p5,p6,Bf]
   |false=>
    obtain⟨k,hk⟩: ∃k:Nat,xs.length=k+1:=⟨xs.length - 1,by omega⟩
    have w:IntKind.i64.wrap ((xs.length:Int) - 1)=(k:Int):=by rw[IntWalk.i64_in _ (by omega)];omega
    have hk1:xs.length - 1=k:=by omega
    have c1: (k:Int)≤(xs.length:Int):=by omega
    have c2: (k:Int)< (xs.length:Int):=by omega
    have c3:k≤xs.length:=by omega
    have c4: (0:Int)≤(k:Int):=by omega
    have c5:k<xs.length:=by omega
    have p5:=Bdm (xs.take k) (by simp;omega)
    have p6:=Uy (xs.take k) (by simp;omega)
    simp only[Bf,List.map_take] at p5 p6
    have g:=Dk xs k (by omega)
    rw[hk1]
    simp[Cg,-Cda,-Cdb,f207,p1,h0,h0',h0'',h1',h1'',eq_false hne,g,w,c1,c2,c3,c4,c5,Db,p5,p6,Bf]
  ·have h0': (xs.length:Int)=0:=by omega
   have h00:xs.length=0:=by omega
   simp[Cg,-Cda,-Cdb,f207,p1,eq_true h0',eq_true h00,h0,Bf]
theorem Ba4 {Y l H:Hp} (h:Cx Y (Bc H)=H) (hle:Bc H≤Bc Y):Cx (ap Y l) (Bc H)=H:=by
 have:Cx (ap Y l) (Bc H)=Cx Y (Bc H):=by
  simp only[ap,Cx,Bc] at*
  exact List.take_append_of_le_length hle
 rw[this,h]
theorem B01 {H X:Hp} {r g e:Nat} {ds:List D} {k:Nat} (hr:C8 X r g=some (e,ds.map V.d)) (hk:k=ds.length) (hle:Bc H≤r):Yz (Bc H) X (.slc r g 0 k)=some (.d (.vals e ds)):=by
 subst hk
 have h: ((ds.map V.d).drop 0).take ds.length=ds.map V.d:=by rw[List.drop_zero,Cdg (by simp)]
 have:=Bbr (H:=X) (n:=Bc H) (d:=7) (r:=r) (g:=g) (i:=0) (k:=ds.length) (by omega) hr (by simp) (by rw[h];exact Bb7 _)
 show(if r<Bc H then _ else(match fz (Bc H) Pb _ (.slc r g 0 ds.length) with|some x=>some (V.d x) |none=>none))=_
 rw[if_neg (by omega)]
 show(match fz (Bc H) (7+1) _ (.slc r g 0 ds.length) with|some x=>some (V.d x) |none=>none)=_
 rw[this]
def Biv (xs:List Br) (f:Bool) (ts:List Br):List Br:=if f=true then ts.reverse++xs else xs++ts
theorem B1e (xs ts:List Br) (hx:xs.length≤1000000) (ht:ts.length≤1000000):Be (ev R) 254 [.d (Bf xs), .d (.bool false), .d (Bf ts)]=some (.d (Bf (xs++ts))):=Bb fun H=>by
 refine Bh (fn:=f254) rfl rfl ?_
 have q:=fun H=>Bsa H xs hx
 obtain⟨o,e',X',he,zs,hz,rfl,rfl,g7⟩:=(C9 (F:=Bq (ev R) R.glob (Bc H) Bg Qi) (lv:=[1,2,7,8]) ts.length
  (fun i e X=> ∃zs,zs=xs++ts.take i∧zs.length=xs.length+i∧X=ap H [.row i 1 ((zs.map D.str).map V.d)]∧e.get 1= .d (.bool false)∧e.get 2= .d (Bf ts)∧e.get 7= .slc (Bc H) i 0 zs.length∧e.get 8= .d (.int .i64 i))
  (fun o e X=> ∃zs,zs=xs++ts∧o= .exit 0∧X=ap H [.row ts.length 1 ((zs.map D.str).map V.d)]∧e.get 7= .slc (Bc H) ts.length 0 zs.length)
  (by
   rintro e X ⟨zs,hz,hl,rfl,g1,g2,g7,g8⟩
   rw[Cdm] at hz
   simp[Cg,-Cda,-Cdb,Qi,g1,g2,g7,g8,Bf]
   subst hz
   simp)
  (by
   rintro i e X hi ⟨zs,hz,hl,rfl,g1,g2,g7,g8⟩
   have c: (i:Int)< (ts.length:Int):=by omega
   have g:=Dk ts i hi
   have w1:IntKind.i64.wrap ((i:Int)+1)=((i+1:Nat):Int):=by rw[IntWalk.i64_in _ (by omega)];rfl
   have r: (zs.length+1)*16≤Ct:=by unfold Ct;omega
   have hn:zs++[ts.getD i []]=xs++ts.take (i+1):=by rw[J8 ts i [] hi,hz,List.append_assoc]
   have hl':zs.length+1=xs.length+(i+1):=by omega
   have key:Bq (ev R) R.glob (Bc H) Bg Qi ⟨e.keep [1,2,7,8],ap H [.row i 1 ((zs.map D.str).map V.d)]⟩=some (.normal,⟨[(8, .d (.int .i64 ((i+1:Nat):Int))),(16, .d (.int .i64 ((i+1:Nat):Int))),(15, .d (.int .i64 i)),(1, .d (.bool false)),(2, .d (Bf ts)),(7, .slc (Bc H) (i+1) 0 (zs.length+1)),(8, .d (.int .i64 i))],ap H [.row (i+1) 1 (((zs++[ts.getD i []]).map D.str).map V.d)]⟩):=by
    simp[Cg,-Cda,-Cdb,Qi,g1,g2,g7,g8,c,hi,g,w1,r,Bf]
   rw[key]
   exact⟨_,hn,by simp[hl];omega,rfl,rfl,rfl,by simp[Env.get];rfl,rfl⟩)
  ts.length 0 [(1, .d (.bool false)),(2, .d (Bf ts)),(7, .slc (Bc H) 0 0 xs.length),(8, .d (.int .i64 0))] (ap H [.row 0 1 ((xs.map D.str).map V.d)]) (by omega) ⟨xs,by simp,rfl,rfl,rfl,rfl,rfl,rfl⟩).out
 have ft:List.take zs.length ((zs.map D.str).map V.d)=(zs.map D.str).map V.d:=Cdg (by simp)
 rw[←hz]
 simp[Cg,-Cda,-Cdb,f254,q,he,g7,ft,Bf]
theorem B1f (xs ts:List Br) (hx:xs.length≤1000000) (ht:ts.length≤1000000):Be (ev R) 254 [.d (Bf xs), .d (.bool true), .d (Bf ts)]=some (.d (Bf (ts.reverse++xs))):=Bb fun H=>by
 refine Bh (fn:=f254) rfl rfl ?_
 have q:=fun H=>Bsa H xs hx
 obtain⟨o,e',X',he,zs,Y,g,hz,rfl,rfl,tk,hle,g7⟩:=(C9 (F:=Bq (ev R) R.glob (Bc H) Bg Qi) (lv:=[1,2,7,8]) ts.length
  (fun i e X=> ∃zs Y g,zs=(ts.take i).reverse++xs∧zs.length=xs.length+i∧X=ap Y [.row g 1 ((zs.map D.str).map V.d)]∧Cx Y (Bc H)=H∧Bc H≤Bc Y∧e.get 1= .d (.bool true)∧e.get 2= .d (Bf ts)∧e.get 7= .slc (Bc Y) g 0 zs.length∧e.get 8= .d (.int .i64 i))
  (fun o e X=> ∃zs Y g,zs=ts.reverse++xs∧o= .exit 0∧X=ap Y [.row g 1 ((zs.map D.str).map V.d)]∧Cx Y (Bc H)=H∧Bc H≤Bc Y∧e.get 7= .slc (Bc Y) g 0 zs.length)
  (by
   rintro e X ⟨zs,Y,g,hz,hl,rfl,tk,hle,g1,g2,g7,g8⟩
   rw[Cdm] at hz
   have key:Bq (ev R) R.glob (Bc H) Bg Qi ⟨e.keep [1,2,7,8],ap Y [.row g 1 ((zs.map D.str).map V.d)]⟩=some (.exit 0,⟨[(1, .d (.bool true)),(2, .d (Bf ts)),(7, .slc (Bc Y) g 0 zs.length),(8, .d (.int .i64 ts.length)),(14, .d (.bool false))],ap Y [.row g 1 ((zs.map D.str).map V.d)]⟩):=by
    simp[Cg,-Cda,-Cdb,Qi,g1,g2,g7,g8,Bf]
   rw[key]
   exact⟨by simp,zs,Y,g,hz,rfl,rfl,tk,hle,rfl⟩)
  (by
   rintro i e X hi ⟨zs,Y,g0,hz,hl,rfl,tk,hle,g1,g2,g7,g8⟩
   have c: (i:Int)< (ts.length:Int):=by omega
   have g:=Dk ts i hi
   have w1:IntKind.i64.wrap ((i:Int)+1)=((i+1:Nat):Int):=by rw[IntWalk.i64_in _ (by omega)];rfl
   have r: (1+zs.length)*16≤Ct:=by unfold Ct;omega
   have hn:ts.getD i []::zs=(ts.take (i+1)).reverse++xs:=by rw[J8 ts i [] hi,hz,List.reverse_append];rfl
   have ft:List.take zs.length ((zs.map D.str).map V.d)=(zs.map D.str).map V.d:=Cdg (by simp)
   have ft':List.take zs.length (zs.map D.str)=zs.map D.str:=Cdg (by simp)
   have key:Bq (ev R) R.glob (Bc H) Bg Qi ⟨e.keep [1,2,7,8],ap Y [.row g0 1 ((zs.map D.str).map V.d)]⟩=some (.normal,⟨[(8, .d (.int .i64 ((i+1:Nat):Int))),(16, .d (.int .i64 ((i+1:Nat):Int))),(15, .d (.int .i64 i)),(1, .d (.bool true)),(2, .d (Bf ts)),(7, .slc (Bc Y+1) 1 0 (1+zs.length)),(8, .d (.int .i64 i))],ap Y [.row g0 1 ((zs.map D.str).map V.d), .row 1 1 (((ts.getD i []::zs).map D.str).map V.d)]⟩):=by
    simp[Cg,-Cda,-Cdb,Qi,g1,g2,g7,g8,c,hi,g,w1,r,ft,ft',Bf]
   rw[key]
   refine⟨_,ap Y [.row g0 1 ((zs.map D.str).map V.d)],1,hn,by simp;omega,by rw[Bmz];rfl, ?_, ?_,rfl,rfl, ?_,rfl⟩
   ·exact Ba4 tk hle
   ·rw[Yk];omega
   ·rw[Yk,Cdc (a:=ts.getD i []),Nat.add_comm zs.length 1];rfl)
  ts.length 0 [(1, .d (.bool true)),(2, .d (Bf ts)),(7, .slc (Bc H) 0 0 xs.length),(8, .d (.int .i64 0))] (ap H [.row 0 1 ((xs.map D.str).map V.d)]) (by omega) ⟨xs,H,0,by simp,rfl,rfl,J5 H,Nat.le_refl _,rfl,rfl,rfl,rfl⟩).out
 have ft:List.take zs.length ((zs.map D.str).map V.d)=(zs.map D.str).map V.d:=Cdg (by simp)
 have tk2: ∀l,Cx (ap Y l) (Bc H)=H:=fun l=>Ba4 tk hle
 have b1:Nat.blt (Bc Y) (Bc H)=false:=by
  cases h:Nat.blt (Bc Y) (Bc H) with
  |false=>rfl
  |true=>simp at h;omega
 have b2: ¬Bc Y<Bc H:=by omega
 have fz:=B01 (H:=H) (X:=ap Y [.row g 1 ((zs.map D.str).map V.d)]) (r:=Bc Y) (g:=g) (e:=1) (ds:=zs.map D.str) (k:=zs.length) (by simp[C8,Bfe,Cc]) (by simp) hle
 rw[←hz]
 simp[Cg,-Cda,-Cdb,f254,q,he,g7,ft,tk2,b1,b2,fz,Bf]
theorem B63 (xs:List Br) (f:Bool) (ts:List Br) (hx:xs.length≤1000000) (ht:ts.length≤1000000):Be (ev R) 254 [.d (Bf xs), .d (.bool f), .d (Bf ts)]=some (.d (Bf (Biv xs f ts))):=by
 cases f with
 |false=>exact B1e xs ts hx ht
 |true=>exact B1f xs ts hx ht
theorem Bk4 {xs:List Br} (h:Ch xs=true):xs.length≤16:=by
 unfold Ch at h
 rw[Cdv,decide_eq_true_eq] at h
 exact h.2
theorem B6j (xs:List Br) (f:Bool) (ts:List Br) (hx:xs.length≤1000000) (ht:ts.length≤1000000):Be (ev R) 206 [.d (Bf xs), .d (.bool f), .d (Bf ts)]=
  some (if Ch xs=true then(if Ch ts=true∧xs.length+ts.length≤16 then .tup [.d (Bf (Biv xs f ts)), .d (.bool true)] else .tup [.d (Bf xs), .d (.bool false)]) else .tup [.d (Bf []), .d (.bool false)]):=Bb fun H=>by
 refine Bh (fn:=f206) rfl rfl ?_
 have p1:=Blq xs (by omega)
 have p2:=Blq ts (by omega)
 have p3:=B63 xs f ts hx ht
 have p5:=Bdm xs hx
 have p6:=Uy xs hx
 have w:IntKind.i64.wrap ((xs.length:Int)+(ts.length:Int))=(xs.length:Int)+(ts.length:Int):=IntWalk.i64_in _ (by omega)
 cases h1:Ch xs with
 |false=>rw[h1] at p1;simp[Cg,-Cda,-Cdb,f206,p1,Bf]
 |true=>
  rw[h1] at p1
  cases h2:Ch ts with
  |false=>rw[h2] at p2;simp[Cg,-Cda,-Cdb,f206,p1,p2,p5,p6,Bf]
  |true=>
   rw[h2] at p2
   by_cases hl:xs.length+ts.length≤16
   ·have hl': ¬ (16:Int)< (xs.length:Int)+(ts.length:Int):=by omega
    simp[Cg,-Cda,-Cdb,f206,p1,p2,p3,w,hl,hl',Bf]
   ·have hl': (16:Int)< (xs.length:Int)+(ts.length:Int):=by omega
    simp[Cg,-Cda,-Cdb,f206,p1,p2,p5,p6,w,hl,hl',Bf]
def Lp (n:Nat) (k:Int):Int:=if k<0 then k+n else k
def Bal (xs:List Br) (at':Int) (t:Br):Option (List Br):=
 if Ju at'=true∧t.length≤40∧0≤Lp xs.length at'∧Lp xs.length at'≤(xs.length:Int) - 1 then some (xs.set (Lp xs.length at').toNat t) else none
theorem B6l (xs:List Br) (k:Int) (t:Br) (hx:xs.length≤1000000) (hk:Bre k):Be (ev R) 208 [.d (Bf xs), .d (.int .i64 k), .d (.str t)]=
  some (if Ch xs=true then(match Bal xs k t with|some ys=> .tup [.d (Bf ys), .d (.bool true)] |none=> .tup [.d (Bf xs), .d (.bool false)]) else .tup [.d (Bf []), .d (.bool false)]):=Bb fun H=>by
 refine Bh (fn:=f208) rfl rfl ?_
 have p1:=Blq xs (by omega)
 have q:=fun H=>Bsa H xs hx
 have p2:Be (ev R) 255 [.d (.int .i64 k)]=some (.d (.bool (Ju k))):=Bep k
 have ft:List.take xs.length ((xs.map D.str).map V.d)=(xs.map D.str).map V.d:=Cdg (by simp)
 cases h1:Ch xs with
 |false=>rw[h1] at p1;simp[Cg,-Cda,-Cdb,f208,p1,Bf]
 |true=>
  rw[h1] at p1
  cases h2:Ju k with
  |false=>
   rw[h2] at p2
   have hr:Bal xs k t=none:=by unfold Bal;rw[h2];simp
   simp[Cg,-Cda,-Cdb,f208,p1,p2,q,hr,ft,Bf]
  |true=>
   rw[h2] at p2
   by_cases ht:t.length≤40
   ·have ht': ¬ (40:Int)< (t.length:Int):=by omega
    have h2':=h2
    unfold Ju at h2'
    simp only[Cdv,decide_eq_true_eq] at h2'
    have w1:IntKind.i64.wrap (k+(xs.length:Int))=k+(xs.length:Int):=IntWalk.i64_in _ (by omega)
    have w2:IntKind.i64.wrap ((xs.length:Int) - 1)=(xs.length:Int) - 1:=IntWalk.i64_in _ (by omega)
    have p3:=Pt (Lp xs.length k) 0 ((xs.length:Int) - 1)
    have fe:Lp xs.length k=if k<0 then k+xs.length else k:=rfl
    by_cases hin:0≤Lp xs.length k∧Lp xs.length k≤(xs.length:Int) - 1
    ·obtain⟨j,hj⟩: ∃j:Nat,Lp xs.length k=(j:Int):=⟨(Lp xs.length k).toNat,by omega⟩
     have hr:Bal xs k t=some (xs.set j t):=by unfold Bal;rw[if_pos ⟨h2,ht,hin.1,hin.2⟩,hj];rfl
     rw[hj] at p3 fe hin
     have hjl:j<xs.length:=by omega
     have hjl': (j:Int)< (xs.length:Int):=by omega
     have hj0: (0:Int)≤(j:Int):=by omega
     have hj1: (j:Int)≤(xs.length:Int) - 1:=by omega
     have w3:IntKind.i64.wrap (j:Int)=(j:Int):=IntWalk.i64_in _ (by omega)
     have hb: (decide ((j:Int)≥0) &&decide ((j:Int)≤(xs.length:Int) - 1))=true:=by rw[Cdv,decide_eq_true_eq,decide_eq_true_eq];exact hin
     rw[hb] at p3
     have hneg: ¬ (j:Int)<0:=by omega
     have sf:=Bc2 D.str xs j t
     have f6: (xs.set j t).length=xs.length:=List.length_set
     have f4:List.take xs.length (List.map V.d (List.map D.str (xs.set j t)))=List.map V.d (List.map D.str (xs.set j t)):=Cdg (by simp)
     rw[hr]
     dsimp only
     generalize xs.set j t=zs at*
     by_cases hn:k<0
     ·rw[if_pos hn] at fe
      simp[Cg,-Cda,-Cdb,f208,p1,p2,q,ht',hn,w1,w2,w3,←fe,p3,hjl,hjl',hj0,hj1,sf,f6,f4,ft,Bf]
     ·rw[if_neg hn] at fe
      subst fe
      simp[Cg,-Cda,-Cdb,f208,p1,p2,q,ht',hneg,w1,w2,w3,p3,hjl,hjl',hj0,hj1,sf,f6,f4,ft,Bf]
    ·have hr:Bal xs k t=none:=by unfold Bal;rw[if_neg (fun h=>hin ⟨h.2.2.1,h.2.2.2⟩)]
     have hb: (decide (Lp xs.length k≥0) &&decide (Lp xs.length k≤(xs.length:Int) - 1))=false:=by
      rw[←Bool.not_eq_true,Cdv,decide_eq_true_eq,decide_eq_true_eq];exact hin
     rw[hb] at p3
     by_cases hn:k<0
     ·rw[fe,if_pos hn] at p3
      simp[Cg,-Cda,-Cdb,f208,p1,p2,q,ht',hn,w1,w2,p3,hr,ft,Bf]
     ·rw[fe,if_neg hn] at p3
      simp[Cg,-Cda,-Cdb,f208,p1,p2,q,ht',hn,w1,w2,p3,hr,ft,Bf]
   ·have ht': (40:Int)< (t.length:Int):=by omega
    have hr:Bal xs k t=none:=by unfold Bal;rw[if_neg (fun h=>ht h.2.1)]
    simp[Cg,-Cda,-Cdb,f208,p1,p2,q,ht',hr,ft,Bf]
def Mx (xs ts:List Br):List Br:=ts.foldl Bdo xs
theorem Btk (xs:List Br) (t:Br): (Bdo xs t).length≤xs.length+1:=by
 unfold Bdo
 split
 ·omega
 ·rw[Ke];omega
theorem Bcn (xs ts:List Br): (Mx xs ts).length≤xs.length+ts.length:=by
 unfold Mx
 induction ts generalizing xs with
 |nil=>simp
 |cons t ts ih=>
  have h1:=ih (Bdo xs t)
  have h2:=Btk xs t
  simp only[List.foldl_cons,Cdc]
  omega
theorem Ber (xs ts:List Br) (i:Nat) (hi:i<ts.length):Bdo (Mx xs (ts.take i)) (ts.getD i [])=Mx xs (ts.take (i+1)):=by
 rw[J8 ts i [] hi];simp only[Mx,List.foldl_append,List.foldl_cons,List.foldl_nil]
theorem B6r (xs ts:List Br) (hx:xs.length≤500000) (ht:ts.length≤500000):Be (ev R) 217 [.d (Bf xs), .d (Bf ts)]=
  some (.d (Bf (if Gg xs=true∧Gg ts=true then Mx xs ts else[]))):=Bb fun H=>by
 refine Bh (fn:=f217) rfl rfl ?_
 have p1:=Bio xs (by omega)
 have p2:=Bio ts (by omega)
 have p5:=Bdm xs (by omega)
 have p6:=Uy xs (by omega)
 cases h1:Gg xs with
 |false=>rw[h1] at p1;simp[Cg,-Cda,-Cdb,f217,p1,p2,Bf]
 |true=>
  rw[h1] at p1
  cases h2:Gg ts with
  |false=>rw[h2] at p2;simp[Cg,-Cda,-Cdb,f217,p1,p2,Bf]
  |true=>
   rw[h2] at p2
   obtain⟨o,e',X',he,rfl,rfl,g5⟩:=(C9 (F:=Bq (ev R) R.glob (Bc H) Bg Bfq) (lv:=[1,5,6]) ts.length
    (fun i e X=>X=H∧e.get 1= .d (Bf ts)∧e.get 5= .d (Bf (Mx xs (ts.take i)))∧e.get 6= .d (.int .i64 i))
    (fun o e X=>o= .exit 0∧X=H∧e.get 5= .d (Bf (Mx xs ts)))
    (by
     rintro e X ⟨rfl,g1,g5,g6⟩
     rw[Cdm] at g5
     simp[Cg,-Cda,-Cdb,Bfq,g1,g5,g6,Bf])
    (by
     rintro i e X hi ⟨rfl,g1,g5,g6⟩
     have c: (i:Int)< (ts.length:Int):=by omega
     have g:=Dk ts i hi
     have w1:IntKind.i64.wrap ((i:Int)+1)=((i+1:Nat):Int):=by rw[IntWalk.i64_in _ (by omega)];rfl
     have hl:=Bcn xs (ts.take i)
     have hl2: (ts.take i).length≤ts.length:=by rw[Cdn];omega
     have p3:=Bz8 (Mx xs (ts.take i)) (ts.getD i []) (by omega)
     rw[Ber xs ts i hi] at p3
     generalize Mx xs (ts.take i)=A at*
     generalize Mx xs (ts.take (i+1))=B at*
     simp[Cg,-Cda,-Cdb,Bfq,g1,g5,g6,c,hi,g,w1,p3,Bf])
    ts.length 0 [(1, .d (Bf ts)),(5, .d (Bf xs)),(6, .d (.int .i64 0))] H (by omega) ⟨rfl,rfl,rfl,rfl⟩).out
   simp[Cg,-Cda,-Cdb,f217,p1,p2,p5,p6,he,g5,Bf]
theorem B6o (xs ts:List Br) (hx:xs.length≤500000) (ht:ts.length≤500000):Be (ev R) 212 [.d (Bf xs), .d (Bf ts)]=
  some (if Gg xs=true then(if Ch ts=true∧(Mx xs ts).length≤16 then .tup [.d (Bf (Mx xs ts)), .d (.int .i64 ((Mx xs ts).length - xs.length)), .d (.bool true)] else .tup [.d (Bf xs), .d (.int .i64 0), .d (.bool false)]) else .tup [.d (Bf []), .d (.int .i64 0), .d (.bool false)]):=Bb fun H=>by
 refine Bh (fn:=f212) rfl rfl ?_
 have p1:=Bio xs (by omega)
 have p2:=Blq ts (by omega)
 have p5:=Bdm xs (by omega)
 have p6:=Uy xs (by omega)
 cases h1:Gg xs with
 |false=>rw[h1] at p1;simp[Cg,-Cda,-Cdb,f212,p1,p2,Bf]
 |true=>
  rw[h1] at p1
  cases h2:Ch ts with
  |false=>rw[h2] at p2;simp[Cg,-Cda,-Cdb,f212,p1,p2,p5,p6,Bf]
  |true=>
   rw[h2] at p2
   obtain⟨o,e',X',he,rfl,rfl,g0,g7⟩:=(C9 (F:=Bq (ev R) R.glob (Bc H) Bg Bfp) (lv:=[0,1,7,8]) ts.length
    (fun i e X=>X=H∧e.get 0= .d (Bf xs)∧e.get 1= .d (Bf ts)∧e.get 7= .d (Bf (Mx xs (ts.take i)))∧e.get 8= .d (.int .i64 i))
    (fun o e X=>o= .exit 0∧X=H∧e.get 0= .d (Bf xs)∧e.get 7= .d (Bf (Mx xs ts)))
    (by
     rintro e X ⟨rfl,g0,g1,g5,g6⟩
     rw[Cdm] at g5
     simp[Cg,-Cda,-Cdb,Bfp,g0,g1,g5,g6,Bf])
    (by
     rintro i e X hi ⟨rfl,g0,g1,g5,g6⟩
     have c: (i:Int)< (ts.length:Int):=by omega
     have g:=Dk ts i hi
     have w1:IntKind.i64.wrap ((i:Int)+1)=((i+1:Nat):Int):=by rw[IntWalk.i64_in _ (by omega)];rfl
     have hl:=Bcn xs (ts.take i)
     have hl2: (ts.take i).length≤ts.length:=by rw[Cdn];omega
     have p3:=Bz8 (Mx xs (ts.take i)) (ts.getD i []) (by omega)
     rw[Ber xs ts i hi] at p3
     generalize Mx xs (ts.take i)=A at*
     generalize Mx xs (ts.take (i+1))=B at*
     simp[Cg,-Cda,-Cdb,Bfp,g0,g1,g5,g6,c,hi,g,w1,p3,Bf])
    ts.length 0 [(0, .d (Bf xs)),(1, .d (Bf ts)),(7, .d (Bf xs)),(8, .d (.int .i64 0))] H (by omega) ⟨rfl,rfl,rfl,rfl,rfl⟩).out
   have hal:=Bcn xs ts
   generalize Mx xs ts=A at*
   have w:IntKind.i64.wrap ((A.length:Int) - (xs.length:Int))=(A.length:Int) - (xs.length:Int):=IntWalk.i64_in _ (by omega)
   by_cases hl:A.length≤16
   ·have hl': ¬ (16:Int)< (A.length:Int):=by omega
    simp[Cg,-Cda,-Cdb,f212,p1,p2,p5,p6,he,g0,g7,w,hl,hl',Bf]
   ·have hl': (16:Int)< (A.length:Int):=by omega
    simp[Cg,-Cda,-Cdb,f212,p1,p2,p5,p6,he,g0,g7,w,hl,hl',Bf]
structure EnSm (e:En):Prop where
 list:e.list.length≤1000000
 scores:e.scores.length≤1000000
 fields:e.fields.length≤1000000
theorem Bxu (e:En) (h:EnSm e):Be (ev R) 52 [.d (Jn e)]=some (.d (Jn e)):=Bb fun H=>by
 refine Bh (fn:=f52) rfl rfl ?_
 obtain⟨key,till,kind,text,list,scores,fields⟩:=e
 obtain⟨h1,h2,h3⟩:=h
 dsimp only at h1 h2 h3
 have p5:=Bdm list h1
 have p6:=Uy list h1
 have r2:scores.length*24≤Ct:=by unfold Ct;omega
 have r3:fields.length*32≤Ct:=by unfold Ct;omega
 simp[Cg,-Cda,-Cdb,f52,p5,p6,r2,r3,Bf]
theorem B6h (e:En) (h:EnSm e):Be (ev R) 173 [.d (Jn e)]=some (.d (.bool (decide (e.kind≠1) &&decide (e.text=[]) &&decide (e.list.length+e.scores.length+e.fields.length=0)))):=Bb fun H=>by
 refine Bh (fn:=f173) rfl rfl ?_
 obtain⟨h1,h2,h3⟩:=h
 have w1:IntKind.i64.wrap ((e.list.length:Int)+(e.scores.length:Int))=(e.list.length:Int)+(e.scores.length:Int):=IntWalk.i64_in _ (by omega)
 have w2:IntKind.i64.wrap ((e.list.length:Int)+(e.scores.length:Int)+(e.fields.length:Int))=(e.list.length:Int)+(e.scores.length:Int)+(e.fields.length:Int):=IntWalk.i64_in _ (by omega)
 have w3: ((e.list.length:Int)+(e.scores.length:Int)+(e.fields.length:Int)=0)=(e.list.length+e.scores.length+e.fields.length=0):=by
  apply propext;omega
 by_cases a:e.kind=1
 ·simp[Cg,-Cda,-Cdb,f173,eq_true a]
 ·by_cases b:e.text=[]
  ·generalize hz:e.list.length+e.scores.length+e.fields.length=z at*
   simp[Cg,-Cda,-Cdb,f173,eq_false a,eq_true b,w1,w2,w3]
  ·simp[Cg,-Cda,-Cdb,f173,eq_false a,eq_false b]
def cpH (b:Ba) (n:Int) (zs:List En) (H:Hp):Hp:=
 match zs with
 | []=> [.row 0 2 [.d (Df b)], .row 0 2 [.agg [.d (.int .i64 0), .nils 7]], .row 0 2 [.agg [.d (.int .i64 n), .nils 7]]]
 |z::r=> [.row 0 2 [.d (Df b)], .row 0 2 [.agg [.d (.int .i64 0), .nils 7]], .row 0 2 [.agg [.d (.int .i64 n), .slc (Bc H+3) r.length 0 (r.length+1)]], .row r.length 7 (((z::r).map Jn).map V.d)]
def cpV (b:Ba) (H:Hp):V:=match b.ents with
 | []=> .agg [.d (.int .i64 b.now), .nils 7]
 |z::r=> .agg [.d (.int .i64 b.now), .slc (Bc H) 0 0 (r.length+1)]
def cpB (b:Ba) (H:Hp):Hp:=match b.ents with
 | []=>H
 |z::r=>ap H [.row 0 7 (((z::r).map Jn).map V.d)]
theorem Box (b:Ba) (hb:b.ents.length≤1000000) (h: ∀e∈b.ents,EnSm e) (H:Hp):ev R 41 [.d (Df b)] H=some (cpV b H,cpB b H):=by
 refine Bh (fn:=f41) rfl rfl ?_
 obtain⟨o,e',X',he,rfl,rfl,g2,g3⟩:=(C9 (F:=Bq (ev R) R.glob (Bc H) Bg Bd3) (lv:=[1,2,3,4]) b.ents.length
  (fun i e X=>X=ap H (cpH b b.now (b.ents.take i) H)∧e.get 1= .ptr (Bc H) 0 0 0∧e.get 2= .ptr (Bc H+1) 0 0 0∧e.get 3= .ptr (Bc H+2) 0 0 0∧e.get 4= .d (.int .i64 i))
  (fun o e X=>o= .exit 0∧X=ap H (cpH b b.now b.ents H)∧e.get 2= .ptr (Bc H+1) 0 0 0∧e.get 3= .ptr (Bc H+2) 0 0 0)
  (by
   rintro e X ⟨rfl,g1,g2,g3,g4⟩
   rw[Cdm]
   cases hz:b.ents with
   |nil=>
    have hl:b.ents.length=0:=by rw[hz];rfl
    rw[hl] at g4
    simp[Cg,-Cda,-Cdb,Bd3,g1,g2,g3,g4,cpH,hl]
   |cons z r=>
    have hl:b.ents.length=r.length+1:=by rw[hz];rfl
    rw[hl] at g4
    simp[Cg,-Cda,-Cdb,Bd3,g1,g2,g3,g4,cpH,hl])
  (by
   rintro i e X hi ⟨rfl,g1,g2,g3,g4⟩
   have c: (i:Int)< (b.ents.length:Int):=by omega
   have g:=Gt b.ents i hi
   have p:=Bxu (b.ents.getD i default) (h _ (Jc hi))
   have w1:IntKind.i64.wrap ((i:Int)+1)=((i+1:Nat):Int):=by rw[IntWalk.i64_in _ (by omega)];rfl
   rw[J8 b.ents i default hi]
   have hl: (b.ents.take i).length=i:=by rw[Cdn];omega
   generalize b.ents.getD i default=x at*
   generalize b.ents.take i=zs at*
   cases zs with
   |nil=>
    obtain rfl:i=0:=by simpa using hl.symm
    have w0:IntKind.i64.wrap 1=1:=by rw[IntWalk.i64_in _ (by omega)]
    simp[Cg,-Cda,-Cdb,Bd3,g1,g2,g3,g4,c,hi,g,p,w0,cpH,Ct]
   |cons z r=>
    obtain rfl:i=r.length+1:=by simpa using hl.symm
    have rm: (r.length+1+1)*120≤Ct:=by unfold Ct;omega
    have c': (r.length:Int)+1< (b.ents.length:Int):=by omega
    have w0:IntKind.i64.wrap ((r.length:Int)+1+1)=(r.length:Int)+1+1:=IntWalk.i64_in _ (by omega)
    have c0: (0:Int)≤(r.length:Int)+1:=by omega
    have c1: ((r.length:Int)+1).toNat=r.length+1:=by omega
    simp[Cg,-Cda,-Cdb,Bd3,g1,g2,g3,g4,c',c0,c1,hi,g,p,w0,cpH,rm])
  b.ents.length 0 [(1, .ptr (Bc H) 0 0 0),(2, .ptr (Bc H+1) 0 0 0),(3, .ptr (Bc H+2) 0 0 0),(4, .d (.int .i64 0))] (ap H (cpH b b.now [] H)) (by omega) ⟨rfl,rfl,rfl,rfl,rfl⟩).out
 obtain⟨now,ents⟩:=b
 cases ents with
 |nil=>
  simp only[cpH] at he
  simp[Cg,-Cda,-Cdb,f41,he,g2,g3,cpV,cpB,U7]
 |cons z r=>
  simp only[cpH] at he
  simp[Cg,-Cda,-Cdb,f41,he,g2,g3,cpV,cpB,U7]
theorem Bzj (b:Ba) (H:Hp):fzV (Bc H) (cpB b H) (cpV b H)=some (.d (Df b)):=by
 obtain⟨now,ents⟩:=b
 cases ents with
 |nil=>simp[Cg,-Cda,-Cdb,cpV,cpB,Gj]
 |cons z r=>
  simp[Cg,-Cda,-Cdb,cpV,cpB]
  rfl
theorem Bym (b:Ba) (H:Hp):Cx (cpB b H) (Bc H)=H:=by
 obtain⟨now,ents⟩:=b
 cases ents with
 |nil=>simp[Cg,-Cda,-Cdb,cpB]
 |cons z r=>simp[Cg,-Cda,-Cdb,cpB]
structure BaSm (b:Ba):Prop where
 len:b.ents.length≤1000000
 each: ∀e∈b.ents,EnSm e
theorem Ls {es:List En} {t:Br} (h:G6 es t=true):Jt es t<es.length:=by
 unfold G6 at h
 rw[Cdv,decide_eq_true_eq] at h
 exact h.1
def Bz (b:Ba) (t:Br):En:=if G6 b.ents t=true then b.ents.getD (Jt b.ents t) default else⟨t,0,0,[],[],[],[]⟩
theorem Gv (b:Ba) (t:Br) (hb:BaSm b):Be (ev R) 27 [.d (Df b), .d (.str t)]=some (.d (Jn (Bz b t))):=Bb fun H=>by
 refine Bh (fn:=f27) rfl rfl ?_
 have p1:=Bpn b t hb.len
 have hl:=Ls (es:=b.ents) (t:=t)
 unfold Bz
 cases h:G6 b.ents t with
 |false=>
  rw[h] at p1
  simp[Cg,-Cda,-Cdb,f27,p1]
 |true=>
  rw[h] at p1
  have hl:=hl h
  have c: (Jt b.ents t:Int)< (b.ents.length:Int):=by omega
  have c0: (0:Int)≤(Jt b.ents t:Int):=by omega
  have g:=Gt b.ents (Jt b.ents t) hl
  have p2:=Bxu (b.ents.getD (Jt b.ents t) default) (hb.each _ (Jc hl))
  simp[Cg,-Cda,-Cdb,f27,p1,hl,c,c0,g,p2]
def Ga (b:Ba) (t:Br):Ba:=if G6 b.ents t=true then⟨b.now,Ka b.ents (Jt b.ents t)⟩ else b
theorem Bpr (b:Ba) (t:Br) (hb:BaSm b):Be (ev R) 40 [.d (Df b), .d (.str t)]=some (.d (Df (Ga b t))):=Bb fun H=>by
 refine Bh (fn:=f40) rfl rfl ?_
 have p0:=Box b hb.len hb.each
 have z0:=Bzj b
 have t0:=Bym b
 have p1:=Bpn b t hb.len
 have hl:=Ls (es:=b.ents) (t:=t)
 have hbl:=hb.len
 unfold Ga
 cases h:G6 b.ents t with
 |false=>
  rw[h] at p1
  simp[Cg,-Cda,-Cdb,f40,p0, ↓z0, ↓t0,p1]
 |true=>
  rw[h] at p1
  have hl:=hl h
  obtain⟨now,ents⟩:=b
  dsimp only at*
  generalize Jt ents t=k at*
  have hk:k≤ents.length:=by omega
  have hk': (k:Int)≤(ents.length:Int):=by omega
  have hk0: (0:Int)≤(k:Int):=by omega
  have w1:IntKind.i64.wrap ((k:Int)+1)=((k+1:Nat):Int):=by rw[IntWalk.i64_in _ (by omega)];rfl
  have hk1: (k:Int)+1≤(ents.length:Int):=by omega
  have hk2:k+1≤ents.length:=by omega
  have hk3: (0:Int)≤(k:Int)+1:=by omega
  have hk4: ((k:Int)+1).toNat=k+1:=by omega
  have r1:k*120≤Ct:=by unfold Ct;omega
  have r3: (k+(ents.length - (k+1)))*120≤Ct:=by unfold Ct;omega
  have mn:min k ents.length=k:=by omega
  have f1:=Bhc Jn ents k
  have f2:=Bhd Jn ents k hl
  have f3:=Br2 ents k hl
  simp[Cg,-Cda,-Cdb,f40,p0, ↓z0, ↓t0,p1,Db,hl,hk,hk',hk0,w1,hk1,hk2,hk3,hk4,r1,r3,mn,f1,f2,f3]
def Sm (e:En):Bool:=decide (e.kind≠1) &&decide (e.text=[]) &&decide (e.list.length+e.scores.length+e.fields.length=0)
def Y3 (b:Ba) (e:En):Bool:=Gl e&& !(decide (e.till≠0) &&decide (e.till≤b.now)) &&decide ((Ga b e.key).ents.length<12)
def P5 (b:Ba) (e:En):Ba×Bool:=
 if Sm e=true then(Ga b e.key,true)
 else if Y3 b e=true then(⟨b.now,Jr (Ga b e.key).ents (Jt (Ga b e.key).ents e.key) e⟩,true)
 else(b,false)
theorem X4 (b:Ba) (t:Br): (Ga b t).now=b.now:=by unfold Ga;split<;>rfl
theorem Bir {b:Ba} {t:Br} {e:En} (h:e∈(Ga b t).ents):e∈b.ents:=by
 unfold Ga at h
 split at h
 ·simp only[Ka,List.mem_append] at h
  rcases h with h|h
  ·exact List.mem_of_mem_take h
  ·exact List.mem_of_mem_drop h
 ·exact h
theorem X3 (b:Ba) (t:Br): (Ga b t).ents.length≤b.ents.length:=by
 unfold Ga
 split
 ·rename_i h
  have:=Ls h
  simp only[Ua _ _ this];omega
 ·exact Nat.le_refl _
theorem Bxz {b:Ba} (hb:BaSm b) (t:Br):BaSm (Ga b t):=⟨Nat.le_trans (X3 b t) hb.len,fun e he=>hb.each e (Bir he)⟩
theorem B69 (b:Ba) (e:En) (hb:BaSm b) (he:EnSm e) (hf:EnFit e):Be (ev R) 67 [.d (Df b), .d (Jn e)]=some (.tup [.d (Df (P5 b e).1), .d (.bool (P5 b e).2)]):=Bb fun H=>by
 refine Bh (fn:=f67) rfl rfl ?_
 have p0:=Box b hb.len hb.each
 have z0:=Bzj b
 have t0:=Bym b
 have p1:=Bpr b e.key hb
 have p2:Be (ev R) 173 [.d (Jn e)]=some (.d (.bool (Sm e))):=B6h e he
 have p3:=Bb (cl:=ev R) fun H=>B3b H e hf
 have p4:=Bpn (Ga b e.key) e.key (Bxz hb e.key).len
 have p5:=Bxu e he
 have hn:=X4 b e.key
 have hdl:=X3 b e.key
 have hbl:=hb.len
 unfold P5
 cases h1:Sm e with
 |true=>
  rw[h1] at p2
  simp[Cg,-Cda,-Cdb,f67,p1,p2]
 |false=>
  rw[h1] at p2
  unfold Y3
  cases h2:Gl e with
  |false=>
   rw[h2] at p3
   simp[Cg,-Cda,-Cdb,f67,p0, ↓z0, ↓t0,p1,p2,p3]
  |true=>
   rw[h2] at p3
   by_cases h3:e.till≠0∧e.till≤b.now
   ·have h30: (e.till=0)=False:=eq_false h3.1
    have h31: (e.till≤b.now)=True:=eq_true h3.2
    simp[Cg,-Cda,-Cdb,f67,p0, ↓z0, ↓t0,p1,p2,p3,h30,h31]
   ·by_cases h4: (Ga b e.key).ents.length<12
    ·have h4': ((Ga b e.key).ents.length:Int)<12:=by omega
     have h4'': ¬ (12:Int)≤((Ga b e.key).ents.length:Int):=by omega
     have hk:=Bsw (Ga b e.key).ents e.key
     generalize Ga b e.key=C at*
     obtain⟨now,ents⟩:=C
     dsimp only at*
     subst hn
     generalize Jt ents e.key=k at*
     have hk': (k:Int)≤(ents.length:Int):=by omega
     have hk0: (0:Int)≤(k:Int):=by omega
     have r1:k*120≤Ct:=by unfold Ct;omega
     have r2: (k+1)*120≤Ct:=by unfold Ct;omega
     have r3: (k+1+(ents.length - k))*120≤Ct:=by unfold Ct;omega
     have mn:min k ents.length=k:=by omega
     have f1:=Xp Jn ents k e
     have f2:=Xq Jn ents k e hk
     have f3:=Bfy ents k e hk
     by_cases h5:e.till=0
     ·simp[Cg,-Cda,-Cdb,f67,p0, ↓z0, ↓t0,p1,p2,p3,p4,p5,eq_true h5,h4,h4',h4'',Db,hk,hk',hk0,r1,r2,r3,mn,f1,f2,f3]
     ·have h6: (e.till≤b.now)=False:=eq_false (fun h=>h3 ⟨h5,h⟩)
      simp[Cg,-Cda,-Cdb,f67,p0, ↓z0, ↓t0,p1,p2,p3,p4,p5,eq_false h5,h6,h4,h4',h4'',Db,hk,hk',hk0,r1,r2,r3,mn,f1,f2,f3]
    ·have h4': ¬ ((Ga b e.key).ents.length:Int)<12:=by omega
     have h4'': (12:Int)≤((Ga b e.key).ents.length:Int):=by omega
     by_cases h5:e.till=0
     ·simp[Cg,-Cda,-Cdb,f67,p0, ↓z0, ↓t0,p1,p2,p3,eq_true h5,h4,h4',h4'']
     ·have h6: (e.till≤b.now)=False:=eq_false (fun h=>h3 ⟨h5,h⟩)
      simp[Cg,-Cda,-Cdb,f67,p0, ↓z0, ↓t0,p1,p2,p3,eq_false h5,h6,h4,h4',h4'']
end Go.Proofs.YtpajcoanfkeibaaGreatDoor.Code

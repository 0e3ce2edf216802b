/- Lemmas (several texts in one). -/
import Derived.Test.YtedlandcnpjghaaGreatDoorMRecord7
import Derived.Test.YtedlandcnpjghaaGreatDoorMRecord21
set_option maxRecDepth 100000
set_option linter.unusedSimpArgs false
set_option linter.unusedVariables false
namespace Go.Proofs.YtedlandcnpjghaaGreatDoor.Code
open Go Go.Ev Go.Proofs
def Dq (s:Bl):Re:= .mk 1 0 s [] []
def Ff (b:Ba) (e:En) (r:Re):Ba×Re:=if(Rx b e).2=true then((Rx b e).1,r) else(b,Dq [102,117,108,108])
theorem Pj (b:Ba) (e:En) (r:Re) (hb:BaSm b) (he:EnSm e) (hf:EnFit e):Be (ev R) 85 [.d (D6 b), .d (Nf e), .d (reD r)]=some (.tup [.d (D6 (Ff b e r).1), .d (reD (Ff b e r).2)]):=Bb fun H=>by
 refine Bo (fn:=f85) rfl rfl ?_
 have p0:=Bnt b hb.len hb.each
 have z0:=Bxp b
 have t0:=Bv0 b
 have p1:=B2o b e hb he hf
 have p2:=Cc [102,117,108,108]
 unfold Ff
 generalize Rx b e=P at*
 obtain⟨P1,P2⟩:=P
 cases P2 with
 |true=>simp[Co,-List.getD_eq_getElem?_getD,-List.map_map,f85,p0, ↓z0, ↓t0,p1,p2]
 |false=>simp[Co,-List.getD_eq_getElem?_getD,-List.map_map,f85,p0, ↓z0, ↓t0,p1,p2,Dq]
def Mi (xs:List Sc):List Bl:=xs.map (·.1)
theorem Bx5 (xs:List Sc) (hx:xs.length≤1000000):Be (ev R) 105 [.d (Fw xs)]=some (.d (Bf (Mi xs))):=Bb fun H=>by
 refine Bo (fn:=f105) rfl rfl ?_
 obtain⟨o,e',X',he,zs,hz,rfl,rfl,g3⟩:=(Dw (F:=Bp (ev R) R.glob (Bc H) Bg Bbp) (lv:=[0,3,4]) xs.length
  (fun i e X=> ∃zs:List Bl,zs=Mi (xs.take i)∧X=ap H [.row zs.length 1 ((zs.map D.str).map V.d)]∧e.get 0= .d (Fw xs)∧e.get 3= .slc (Bc H) zs.length 0 zs.length∧e.get 4= .d (.int .i64 i))
  (fun o e X=> ∃zs:List Bl,zs=Mi xs∧o= .exit 0∧X=ap H [.row zs.length 1 ((zs.map D.str).map V.d)]∧e.get 3= .slc (Bc H) zs.length 0 zs.length)
  (by
   rintro e X ⟨zs,hz,rfl,g0,g3,g4⟩
   rw[List.take_length] at hz
   have key:Bp (ev R) R.glob (Bc H) Bg Bbp ⟨e.keep [0,3,4],ap H [.row zs.length 1 ((zs.map D.str).map V.d)]⟩=some (.exit 0,⟨[(0, .d (Fw xs)),(3, .slc (Bc H) zs.length 0 zs.length),(4, .d (.int .i64 xs.length)),(9, .d (.bool false))],ap H [.row zs.length 1 ((zs.map D.str).map V.d)]⟩):=by
    simp[Co,-List.getD_eq_getElem?_getD,-List.map_map,Bbp,g0,g3,g4,Fw]
   rw[key]
   exact⟨by simp,zs,hz,rfl,rfl,rfl⟩)
  (by
   rintro i e X hi ⟨zs,hz,rfl,g0,g3,g4⟩
   have c: (i:Int)< (xs.length:Int):=by omega
   have g:=M8 xs i hi
   have w1:IntKind.i64.wrap ((i:Int)+1)=((i+1:Nat):Int):=by rw[IntWalk.i64_in _ (by omega)];rfl
   have hl:zs.length=i:=by rw[hz];simp only[Mi,List.length_map,List.length_take];omega
   have r: (i+1)*16≤Cx:=by unfold Cx;omega
   have hn:Mi (xs.take (i+1))=zs++[(xs.getD i ([],0)).1]:=by rw[Kv xs i ([],0) hi,hz];simp only[Mi,List.map_append,List.map_cons,List.map_nil]
   simp[Co,-List.getD_eq_getElem?_getD,-List.map_map,Bbp,g0,g3,g4,c,hi,g,w1,r,hn,hl,Fw])
  xs.length 0 [(0, .d (Fw xs)),(3, .slc (Bc H) 0 0 0),(4, .d (.int .i64 0))] (ap H [.row 0 1 []]) (by omega) ⟨[],by simp[Mi],rfl,rfl,rfl,rfl⟩).out
 have ft:List.take zs.length ((zs.map D.str).map V.d)=(zs.map D.str).map V.d:=List.take_of_length_le (by simp)
 rw[←hz]
 simp[Co,-List.getD_eq_getElem?_getD,-List.map_map,f105,he,g3,ft,Bf]
def Bcp (xs:List Sc) (f t:Int):List Sc:=((xs.take (Jz xs.length f t).2.toNat).drop (Jz xs.length f t).1.toNat)
theorem B2f (xs:List Sc) (f t:Int) (hx:xs.length≤1000000):Be (ev R) 106 [.d (Fw xs), .d (.int .i64 f), .d (.int .i64 t)]=
  some (.d (Fw (if Fe xs=true∧Js f=true∧Js t=true then Bcp xs f t else[]))):=Bb fun H=>by
 refine Bo (fn:=f106) rfl rfl ?_
 have p1:=Beh xs (by omega)
 have p2:Be (ev R) 126 [.d (.int .i64 f)]=some (.d (.bool (Js f))):=Bei f
 have p3:Be (ev R) 126 [.d (.int .i64 t)]=some (.d (.bool (Js t))):=Bei t
 cases h1:Fe xs with
 |false=>rw[h1] at p1;simp[Co,-List.getD_eq_getElem?_getD,-List.map_map,f106,p1,Fw]
 |true=>
  cases h2:Js f with
  |false=>rw[h1] at p1;rw[h2] at p2;simp[Co,-List.getD_eq_getElem?_getD,-List.map_map,f106,p1,p2,Fw]
  |true=>
   cases h3:Js t with
   |false=>rw[h1] at p1;rw[h2] at p2;rw[h3] at p3;simp[Co,-List.getD_eq_getElem?_getD,-List.map_map,f106,p1,p2,p3,Fw]
   |true=>
    rw[h1] at p1;rw[h2] at p2;rw[h3] at p3
    unfold Js at h2 h3
    simp only[Bool.and_eq_true,decide_eq_true_eq] at h2 h3
    have p4:=By4 xs.length f t (by omega) h2 h3
    obtain⟨b1,b2,b3⟩:=Bbj xs.length f t
    have hr:Bcp xs f t=((xs.take (Jz xs.length f t).2.toNat).drop (Jz xs.length f t).1.toNat):=rfl
    generalize(Jz xs.length f t).1=a at*
    generalize(Jz xs.length f t).2=b at*
    obtain⟨A,rfl⟩: ∃A:Nat,a=(A:Int):=⟨a.toNat,by omega⟩
    obtain⟨B,rfl⟩: ∃B:Nat,b=(B:Int):=⟨b.toNat,by omega⟩
    simp only[Int.toNat_natCast] at hr
    have b5:A≤B:=by omega
    have b6:B≤xs.length:=by omega
    have hd:List.drop A (List.take B (List.map Ms xs))=(Bcp xs f t).map Ms:=by rw[hr];simp only[List.map_drop,List.map_take]
    have hl: (Bcp xs f t).length≤1000000:=by rw[hr];simp only[List.length_drop,List.length_take];omega
    generalize Bcp xs f t=ys at*
    have r:ys.length*24≤Cx:=by unfold Cx;omega
    have ft:List.take ys.length ((ys.map Ms).map V.d)=(ys.map Ms).map V.d:=List.take_of_length_le (by simp)
    simp[Co,-List.getD_eq_getElem?_getD,-List.map_map,f106,p1,p2,p3,p4,De,b1,b2,b3,b5,b6,hd,r,ft,Fw]
def inV (lo hi n:Int):Bool:=decide (n≥lo) &&decide (n≤hi)
def rBy (xs:List Sc) (lo hi:Int):List Sc:=if Fe xs=true then xs.filter fun x=>inV lo hi x.2 else[]
theorem B2g (xs:List Sc) (lo up:Int) (hx:xs.length≤1000000):Be (ev R) 107 [.d (Fw xs), .d (.int .i64 lo), .d (.int .i64 up)]=some (.d (Fw (rBy xs lo up))):=Bb fun H=>by
 refine Bo (fn:=f107) rfl rfl ?_
 have p1:=Beh xs (by omega)
 unfold rBy
 cases h1:Fe xs with
 |true=>
  rw[h1] at p1
  obtain⟨o,e',X',he,rfl,rfl,g7⟩:=(Dw (F:=Bp (ev R) R.glob (Bc H) Bg Q7) (lv:=[0,1,2,7,8]) xs.length
   (fun i e X=> ∃zs,zs=(xs.take i).filter (fun x=>inV lo up x.2)∧X=ap H [.row zs.length 2 ((zs.map Ms).map V.d)]∧e.get 0= .d (Fw xs)∧e.get 1= .d (.int .i64 lo)∧e.get 2= .d (.int .i64 up)∧e.get 7= .slc (Bc H) zs.length 0 zs.length∧e.get 8= .d (.int .i64 i))
   (fun o e X=>o= .exit 0∧X=ap H [.row (xs.filter (fun x=>inV lo up x.2)).length 2 (((xs.filter (fun x=>inV lo up x.2)).map Ms).map V.d)]∧e.get 7= .slc (Bc H) (xs.filter (fun x=>inV lo up x.2)).length 0 (xs.filter (fun x=>inV lo up x.2)).length)
   (by
    rintro e X ⟨zs,rfl,rfl,g0,g1,g2,g7,g8⟩
    rw[List.take_length] at*
    simp[Co,-List.getD_eq_getElem?_getD,-List.map_map,Q7,g0,g1,g2,g7,g8,p1,Fw])
   (by
    rintro i e X hi ⟨zs,hz,rfl,g0,g1,g2,g7,g8⟩
    have c: (i:Int)< (xs.length:Int):=by omega
    have g:=M8 xs i hi
    have w1:IntKind.i64.wrap ((i:Int)+1)=((i+1:Nat):Int):=by rw[IntWalk.i64_in _ (by omega)];rfl
    have hf:=Pt (fun x=>inV lo up x.2) xs i ([],0) hi
    have hl:=Ub (fun x=>inV lo up x.2) xs i hi
    rw[←hz] at hf hl
    have p2:Be (ev R) 16 [.d (.int .i64 (xs.getD i ([],0)).2), .d (.int .i64 lo), .d (.int .i64 up)]=some (.d (.bool (inV lo up (xs.getD i ([],0)).2))):=Pi (xs.getD i ([],0)).2 lo up
    have r: (zs.length+1)*24≤Cx:=by unfold Cx;omega
    by_cases h:inV lo up (xs.getD i ([],0)).2=true
    ·simp only[h,if_true] at hf
     rw[h] at p2
     simp[Co,-List.getD_eq_getElem?_getD,-List.map_map,Q7,g0,g1,g2,g7,g8,p1,c,g,hi,w1,hf,r,p1,p2,Fw]
    ·simp only[h,Bool.false_eq_true,if_false,List.append_nil] at hf
     rw[Bool.not_eq_true] at h
     rw[h] at p2
     simp[Co,-List.getD_eq_getElem?_getD,-List.map_map,Q7,g0,g1,g2,g7,g8,p1,c,g,hi,w1,hf,p1,p2,Fw])
   xs.length 0 [(0, .d (Fw xs)),(1, .d (.int .i64 lo)),(2, .d (.int .i64 up)),(7, .slc (Bc H) 0 0 0),(8, .d (.int .i64 0))] (ap H [.row 0 2 []]) (by omega) ⟨[],by simp,rfl,rfl,rfl,rfl,rfl,rfl⟩).out
  simp[Co,-List.getD_eq_getElem?_getD,-List.map_map,f107,p1,he,g7,Fw]
 |false=>
  rw[h1] at p1
  obtain⟨o,e',X',he,rfl,rfl,g7⟩: ∃o e' X',Bg (Bp (ev R) R.glob (Bc H) Bg Q7) [0,1,2,7,8] ⟨[(0, .d (Fw xs)),(1, .d (.int .i64 lo)),(2, .d (.int .i64 up)),(7, .slc (Bc H) 0 0 0),(8, .d (.int .i64 0))],ap H [.row 0 2 []]⟩=some (o,⟨e',X'⟩)∧o= .exit 0∧X'=ap H [.row 0 2 []]∧e'.get 7= .slc (Bc H) 0 0 0:=by
   have key: ∀e:Env,e.get 0= .d (Fw xs)→e.get 7= .slc (Bc H) 0 0 0→e.get 8= .d (.int .i64 0)→Gives (fun o e X=>o≠ .normal∧o= .exit 0∧X=ap H [.row 0 2 []]∧e.get 7= .slc (Bc H) 0 0 0) (Bp (ev R) R.glob (Bc H) Bg Q7 ⟨e.keep [0,1,2,7,8],ap H [.row 0 2 []]⟩):=by
    intro e g0 g7 g8
    by_cases hz:0<xs.length
    ·have c: (0:Int)< (xs.length:Int):=by omega
     simp[Co,-List.getD_eq_getElem?_getD,-List.map_map,Q7,g0,g7,g8,c,hz,p1,Fw]
    ·have c: ¬ (0:Int)< (xs.length:Int):=by omega
     simp[Co,-List.getD_eq_getElem?_getD,-List.map_map,Q7,g0,g7,g8,c,hz,Fw]
   obtain⟨o,e',X',h1,h2,h3⟩:=(key [(0, .d (Fw xs)),(1, .d (.int .i64 lo)),(2, .d (.int .i64 up)),(7, .slc (Bc H) 0 0 0),(8, .d (.int .i64 0))] rfl rfl rfl).out
   exact⟨o,e',X',F7 h1 h2,h3⟩
  simp[Co,-List.getD_eq_getElem?_getD,-List.map_map,f107,he,g7,Fw]
def Bi5 (k:Nat):Bl:=[[110,111,110,101],[115,116,114,105,110,103],[108,105,115,116],[115,101,116],[122,115,101,116],[104,97,115,104]].getD k []
theorem B2k (k:Int) (hk:0≤k∧k≤5):Be (ev R) 112 [.d (.int .i64 k)]=some (.d (.str (Bi5 k.toNat))):=Bb fun H=>by
 refine Bo (fn:=f112) rfl rfl ?_
 obtain rfl|rfl|rfl|rfl|rfl|rfl:k=0∨k=1∨k=2∨k=3∨k=4∨k=5:=by omega
 all_goals simp[Co,-List.getD_eq_getElem?_getD,-List.map_map,f112,Bi5,List.getD_cons_zero,List.getD_cons_succ]
def K6 (xs:List Bl) (t:Bl) (c most:Int) (i:Nat) (s:List Bl×Nat):List Bl×Nat:=
 if xs.getD i []=t∧(c=0∨(s.2:Int)<most) then(s.1,s.2+1) else(s.1++[xs.getD i []],s.2)
def J4 (xs:List Bl) (t:Bl) (c most:Int):List Bl×Nat:=(List.range' 0 xs.length).foldl (fun s i=>K6 xs t c most i s) ([],0)
theorem B1i (H:Hp) (xs:List Bl) (t:Bl) (c most:Int) (hx:xs.length≤1000000): ∃e',Bg (Bp (ev R) R.glob (Bc H) Bg Zr) [1,2,8,9,10,11,12] ⟨[(1, .d (.int .i64 c)),(2, .d (.str t)),(8, .d (Bf xs)),(9, .d (.int .i64 most)),(10, .slc (Bc H) 0 0 0),(11, .d (.int .i64 0)),(12, .d (.int .i64 0))],ap H [.row 0 1 []]⟩=
  some (.exit 0,⟨e',ap H [.row (J4 xs t c most).1.length 1 (((J4 xs t c most).1.map D.str).map V.d)]⟩)∧e'.get 1= .d (.int .i64 c)∧e'.get 10= .slc (Bc H) (J4 xs t c most).1.length 0 (J4 xs t c most).1.length∧e'.get 11= .d (.int .i64 (J4 xs t c most).2)∧(J4 xs t c most).1.length+(J4 xs t c most).2=xs.length:=by
 have key:=Xy (F:=Bp (ev R) R.glob (Bc H) Bg Zr) (lv:=[1,2,8,9,10,11,12]) (K6 xs t c most) xs.length
  (fun i s e X=>s.1.length+s.2=i∧X=ap H [.row s.1.length 1 ((s.1.map D.str).map V.d)]∧e.get 1= .d (.int .i64 c)∧e.get 2= .d (.str t)∧e.get 8= .d (Bf xs)∧e.get 9= .d (.int .i64 most)∧e.get 10= .slc (Bc H) s.1.length 0 s.1.length∧e.get 11= .d (.int .i64 s.2)∧e.get 12= .d (.int .i64 i))
  (fun s o e X=>o= .exit 0∧s.1.length+s.2=xs.length∧X=ap H [.row s.1.length 1 ((s.1.map D.str).map V.d)]∧e.get 1= .d (.int .i64 c)∧e.get 10= .slc (Bc H) s.1.length 0 s.1.length∧e.get 11= .d (.int .i64 s.2))
  (by
   rintro⟨zs,n⟩ e X ⟨hl,rfl,g1,g2,g8,g9,g10,g11,g12⟩
   dsimp only at*
   simp[Co,-List.getD_eq_getElem?_getD,-List.map_map,Zr,g1,g2,g8,g9,g10,g11,g12,eq_true hl,Bf])
  (by
   rintro i ⟨zs,n⟩ e X hi ⟨hl,rfl,g1,g2,g8,g9,g10,g11,g12⟩
   dsimp only at*
   have cc: (i:Int)< (xs.length:Int):=by omega
   have g:=Dt xs i hi
   have w1:IntKind.i64.wrap ((i:Int)+1)=(i:Int)+1:=IntWalk.i64_in _ (by omega)
   have w2:IntKind.i64.wrap ((n:Int)+1)=(n:Int)+1:=IntWalk.i64_in _ (by omega)
   have r: (zs.length+1)*16≤Cx:=by unfold Cx;omega
   have hl1: (zs.length+(n+1)=i+1)=True:=eq_true (by omega)
   have hl2: (zs.length+1+n=i+1)=True:=eq_true (by omega)
   by_cases a:xs.getD i []=t
   ·by_cases b:c=0
    ·simp[Co,-List.getD_eq_getElem?_getD,-List.map_map,Zr,g1,g2,g8,g9,g10,g11,g12,cc,hi,g,w1,w2,hl1,hl2,K6,eq_true a,eq_true b,Bf]
    ·by_cases d: (n:Int)<most
     ·simp[Co,-List.getD_eq_getElem?_getD,-List.map_map,Zr,g1,g2,g8,g9,g10,g11,g12,cc,hi,g,w1,w2,hl1,hl2,K6,eq_true a,eq_false b,eq_true d,Bf]
     ·simp[Co,-List.getD_eq_getElem?_getD,-List.map_map,Zr,g1,g2,g8,g9,g10,g11,g12,cc,hi,g,w1,w2,r,hl1,hl2,K6,eq_true a,eq_false b,eq_false d,Bf]
   ·simp[Co,-List.getD_eq_getElem?_getD,-List.map_map,Zr,g1,g2,g8,g9,g10,g11,g12,cc,hi,g,w1,w2,r,hl1,hl2,K6,eq_false a,Bf])
  xs.length 0 ([],0) [(1, .d (.int .i64 c)),(2, .d (.str t)),(8, .d (Bf xs)),(9, .d (.int .i64 most)),(10, .slc (Bc H) 0 0 0),(11, .d (.int .i64 0)),(12, .d (.int .i64 0))] (ap H [.row 0 1 []]) (by omega) ⟨rfl,rfl,rfl,rfl,rfl,rfl,rfl,rfl,rfl⟩
 obtain⟨o,e',X',he,rfl,hl,rfl,g1,g10,g11⟩:=key.out
 exact⟨e',he,g1,g10,g11,hl⟩
def Y5 (xs:List Bl) (c:Int) (t:Bl):List Bl×Nat:=
 if c<0 then((J4 xs.reverse t c (-c)).1.reverse,(J4 xs.reverse t c (-c)).2) else J4 xs t c c
theorem B6b (xs:List Bl) (c:Int) (t:Bl) (hx:xs.length≤1000000):Be (ev R) 92 [.d (Bf xs), .d (.int .i64 c), .d (.str t)]=
  some (if Dc xs=true∧Js c=true then .tup [.d (Bf (Y5 xs c t).1), .d (.int .i64 (Y5 xs c t).2)] else .tup [.d (Bf []), .d (.int .i64 0)]):=Bb fun H=>by
 refine Bo (fn:=f92) rfl rfl ?_
 have p1:=Bcg xs (by omega)
 have p2:Be (ev R) 126 [.d (.int .i64 c)]=some (.d (.bool (Js c))):=Bei c
 have p5:=Bc9 xs hx
 have p6:=Uz xs hx
 have p7:=fun H=>Fq (Bx7 xs hx) H
 cases h1:Dc xs with
 |false=>rw[h1] at p1;simp[Co,-List.getD_eq_getElem?_getD,-List.map_map,f92,p1,p2,Bf]
 |true=>
  rw[h1] at p1
  cases h2:Js c with
  |false=>rw[h2] at p2;simp[Co,-List.getD_eq_getElem?_getD,-List.map_map,f92,p1,p2,Bf]
  |true=>
   rw[h2] at p2
   unfold Js at h2
   simp only[Bool.and_eq_true,decide_eq_true_eq] at h2
   unfold Y5
   by_cases hc:c<0
   ·have w:IntKind.i64.wrap (-c)= -c:=IntWalk.i64_in _ (by omega)
    obtain⟨e',he,g1,g10,g11,hl⟩:=B1i H xs.reverse t c (-c) (by rw[List.length_reverse];exact hx)
    have hrl:xs.reverse.length=xs.length:=List.length_reverse
    simp only[if_pos hc]
    generalize xs.reverse=ys at*
    generalize J4 ys t c (-c)=A at*
    obtain⟨zs,n⟩:=A
    dsimp only at*
    have p8:=fun H=>Fq (Bx7 zs (by omega)) H
    generalize zs.reverse=us at*
    have ft:List.take zs.length (zs.map D.str)=zs.map D.str:=List.take_of_length_le (by simp)
    simp[Co,-List.getD_eq_getElem?_getD,-List.map_map,f92,p1,p2,p5,p6,p7,p8,eq_true hc,w,he,g1,g10,g11,ft,Bf]
   ·obtain⟨e',he,g1,g10,g11,hl⟩:=B1i H xs t c c hx
    simp only[if_neg hc]
    generalize J4 xs t c c=A at*
    obtain⟨zs,n⟩:=A
    dsimp only at*
    have ft:List.take zs.length ((zs.map D.str).map V.d)=(zs.map D.str).map V.d:=List.take_of_length_le (by simp)
    simp[Co,-List.getD_eq_getElem?_getD,-List.map_map,f92,p1,p2,p5,p6,p7,eq_false hc,he,g1,g10,g11,ft,Bf]
end Go.Proofs.YtedlandcnpjghaaGreatDoor.Code

/- Lemmas (several texts in one). -/
import Derived.Test.YtjdmiodinhlchaaGreatMBasePut7
import Derived.Test.YtjdmiodinhlchaaGreatMBasePut15
set_option maxRecDepth 100000
set_option linter.unusedSimpArgs false
set_option linter.unusedVariables false
namespace Go.Proofs.YtjdmiodinhlchaaGreat.Code
open Go Go.Ev Go.Proofs
def Du (s:Bp):Re:= .mk 1 0 s [] []
def Fq (b:Ba) (e:En) (r:Re):Ba×Re:=if(Pd b e).2=true then((Pd b e).1,r) else(b,Du [102,117,108,108])
theorem Ku (b:Ba) (e:En) (r:Re) (hb:BaSm b) (he:EnSm e) (hf:EnFit e):Be (ev R) 132 [.d (Dx b), .d (F6 e), .d (Z4 r)]=some (.tup [.d (Dx (Fq b e r).1), .d (Z4 (Fq b e r).2)]):=Bb fun H=>by
 refine Bh (fn:=f132) rfl rfl ?_
 have p0:=Bnt b hb.len hb.each
 have z0:=Bxt b
 have t0:=Bwy b
 have p1:=Bzq b e hb he hf
 have p2:=Bu [102,117,108,108]
 unfold Fq
 generalize Pd b e=P at*
 obtain⟨P1,P2⟩:=P
 cases P2 with
 |true=>simp[Cn,-List.getD_eq_getElem?_getD,-List.map_map,f132,p0, ↓z0, ↓t0,p1,p2]
 |false=>simp[Cn,-List.getD_eq_getElem?_getD,-List.map_map,f132,p0, ↓z0, ↓t0,p1,p2,Du]
def Mf (xs:List Sc):List Bp:=xs.map (·.1)
theorem Byd (xs:List Sc) (hx:xs.length≤1000000):Be (ev R) 151 [.d (Dr xs)]=some (.d (Bf (Mf xs))):=Bb fun H=>by
 refine Bh (fn:=f151) rfl rfl ?_
 obtain⟨o,e',X',he,zs,hz,rfl,rfl,g3⟩:=(Dh (F:=Bq (ev R) R.glob (Bc H) Bg Ba3) (lv:=[0,3,4]) xs.length
  (fun i e X=> ∃zs:List Bp,zs=Mf (xs.take i)∧X=ap H [.row zs.length 1 ((zs.map D.str).map V.d)]∧e.get 0= .d (Dr xs)∧e.get 3= .slc (Bc H) zs.length 0 zs.length∧e.get 4= .d (.int .i64 i))
  (fun o e X=> ∃zs:List Bp,zs=Mf xs∧o= .exit 0∧X=ap H [.row zs.length 1 ((zs.map D.str).map V.d)]∧e.get 3= .slc (Bc H) zs.length 0 zs.length)
  (by
   rintro e X ⟨zs,hz,rfl,g0,g3,g4⟩
   rw[List.take_length] at hz
   have key:Bq (ev R) R.glob (Bc H) Bg Ba3 ⟨e.keep [0,3,4],ap H [.row zs.length 1 ((zs.map D.str).map V.d)]⟩=some (.exit 0,⟨[(0, .d (Dr xs)),(3, .slc (Bc H) zs.length 0 zs.length),(4, .d (.int .i64 xs.length)),(9, .d (.bool false))],ap H [.row zs.length 1 ((zs.map D.str).map V.d)]⟩):=by
    simp[Cn,-List.getD_eq_getElem?_getD,-List.map_map,Ba3,g0,g3,g4,Dr]
   rw[key]
   exact⟨by simp,zs,hz,rfl,rfl,rfl⟩)
  (by
   rintro i e X hi ⟨zs,hz,rfl,g0,g3,g4⟩
   have c: (i:Int)< (xs.length:Int):=by omega
   have g:=Mv xs i hi
   have w1:IntKind.i64.wrap ((i:Int)+1)=((i+1:Nat):Int):=by rw[IntWalk.i64_in _ (by omega)];rfl
   have hl:zs.length=i:=by rw[hz];simp only[Mf,List.length_map,List.length_take];omega
   have r: (i+1)*16≤Cv:=by unfold Cv;omega
   have hn:Mf (xs.take (i+1))=zs++[(xs.getD i ([],0)).1]:=by rw[Jv xs i ([],0) hi,hz];simp only[Mf,List.map_append,List.map_cons,List.map_nil]
   simp[Cn,-List.getD_eq_getElem?_getD,-List.map_map,Ba3,g0,g3,g4,c,hi,g,w1,r,hn,hl,Dr])
  xs.length 0 [(0, .d (Dr xs)),(3, .slc (Bc H) 0 0 0),(4, .d (.int .i64 0))] (ap H [.row 0 1 []]) (by omega) ⟨[],by simp[Mf],rfl,rfl,rfl,rfl⟩).out
 have ft:List.take zs.length ((zs.map D.str).map V.d)=(zs.map D.str).map V.d:=List.take_of_length_le (by simp)
 rw[←hz]
 simp[Cn,-List.getD_eq_getElem?_getD,-List.map_map,f151,he,g3,ft,Bf]
def Bb3 (xs:List Sc) (f t:Int):List Sc:=((xs.take (Kb xs.length f t).2.toNat).drop (Kb xs.length f t).1.toNat)
theorem B3w (xs:List Sc) (f t:Int) (hx:xs.length≤1000000):Be (ev R) 152 [.d (Dr xs), .d (.int .i64 f), .d (.int .i64 t)]=
  some (.d (Dr (if Dg xs=true∧J6 f=true∧J6 t=true then Bb3 xs f t else[]))):=Bb fun H=>by
 refine Bh (fn:=f152) rfl rfl ?_
 have p1:=Bom xs (by omega)
 have p2:Be (ev R) 163 [.d (.int .i64 f)]=some (.d (.bool (J6 f))):=Bdp f
 have p3:Be (ev R) 163 [.d (.int .i64 t)]=some (.d (.bool (J6 t))):=Bdp t
 cases h1:Dg xs with
 |false=>rw[h1] at p1;simp[Cn,-List.getD_eq_getElem?_getD,-List.map_map,f152,p1,Dr]
 |true=>
  cases h2:J6 f with
  |false=>rw[h1] at p1;rw[h2] at p2;simp[Cn,-List.getD_eq_getElem?_getD,-List.map_map,f152,p1,p2,Dr]
  |true=>
   cases h3:J6 t with
   |false=>rw[h1] at p1;rw[h2] at p2;rw[h3] at p3;simp[Cn,-List.getD_eq_getElem?_getD,-List.map_map,f152,p1,p2,p3,Dr]
   |true=>
    rw[h1] at p1;rw[h2] at p2;rw[h3] at p3
    unfold J6 at h2 h3
    simp only[Bool.and_eq_true,decide_eq_true_eq] at h2 h3
    have p4:=Brs xs.length f t (by omega) h2 h3
    obtain⟨b1,b2,b3⟩:=Ban xs.length f t
    have hr:Bb3 xs f t=((xs.take (Kb xs.length f t).2.toNat).drop (Kb xs.length f t).1.toNat):=rfl
    generalize(Kb xs.length f t).1=a at*
    generalize(Kb xs.length f t).2=b at*
    obtain⟨A,rfl⟩: ∃A:Nat,a=(A:Int):=⟨a.toNat,by omega⟩
    obtain⟨B,rfl⟩: ∃B:Nat,b=(B:Int):=⟨b.toNat,by omega⟩
    simp only[Int.toNat_natCast] at hr
    have b5:A≤B:=by omega
    have b6:B≤xs.length:=by omega
    have hd:List.drop A (List.take B (List.map Jq xs))=(Bb3 xs f t).map Jq:=by rw[hr];simp only[List.map_drop,List.map_take]
    have hl: (Bb3 xs f t).length≤1000000:=by rw[hr];simp only[List.length_drop,List.length_take];omega
    generalize Bb3 xs f t=ys at*
    have r:ys.length*24≤Cv:=by unfold Cv;omega
    have ft:List.take ys.length ((ys.map Jq).map V.d)=(ys.map Jq).map V.d:=List.take_of_length_le (by simp)
    simp[Cn,-List.getD_eq_getElem?_getD,-List.map_map,f152,p1,p2,p3,p4,Dp,b1,b2,b3,b5,b6,hd,r,ft,Dr]
def inV (lo hi n:Int):Bool:=decide (n≥lo) &&decide (n≤hi)
def rBy (xs:List Sc) (lo hi:Int):List Sc:=if Dg xs=true then xs.filter fun x=>inV lo hi x.2 else[]
theorem B3x (xs:List Sc) (lo up:Int) (hx:xs.length≤1000000):Be (ev R) 153 [.d (Dr xs), .d (.int .i64 lo), .d (.int .i64 up)]=some (.d (Dr (rBy xs lo up))):=Bb fun H=>by
 refine Bh (fn:=f153) rfl rfl ?_
 have p1:=Bom xs (by omega)
 unfold rBy
 cases h1:Dg xs with
 |true=>
  rw[h1] at p1
  obtain⟨o,e',X',he,rfl,rfl,g7⟩:=(Dh (F:=Bq (ev R) R.glob (Bc H) Bg Qz) (lv:=[0,1,2,7,8]) xs.length
   (fun i e X=> ∃zs,zs=(xs.take i).filter (fun x=>inV lo up x.2)∧X=ap H [.row zs.length 2 ((zs.map Jq).map V.d)]∧e.get 0= .d (Dr xs)∧e.get 1= .d (.int .i64 lo)∧e.get 2= .d (.int .i64 up)∧e.get 7= .slc (Bc H) zs.length 0 zs.length∧e.get 8= .d (.int .i64 i))
   (fun o e X=>o= .exit 0∧X=ap H [.row (xs.filter (fun x=>inV lo up x.2)).length 2 (((xs.filter (fun x=>inV lo up x.2)).map Jq).map V.d)]∧e.get 7= .slc (Bc H) (xs.filter (fun x=>inV lo up x.2)).length 0 (xs.filter (fun x=>inV lo up x.2)).length)
   (by
    rintro e X ⟨zs,rfl,rfl,g0,g1,g2,g7,g8⟩
    rw[List.take_length] at*
    simp[Cn,-List.getD_eq_getElem?_getD,-List.map_map,Qz,g0,g1,g2,g7,g8,p1,Dr])
   (by
    rintro i e X hi ⟨zs,hz,rfl,g0,g1,g2,g7,g8⟩
    have c: (i:Int)< (xs.length:Int):=by omega
    have g:=Mv xs i hi
    have w1:IntKind.i64.wrap ((i:Int)+1)=((i+1:Nat):Int):=by rw[IntWalk.i64_in _ (by omega)];rfl
    have hf:=Pf (fun x=>inV lo up x.2) xs i ([],0) hi
    have hl:=Tj (fun x=>inV lo up x.2) xs i hi
    rw[←hz] at hf hl
    have p2:Be (ev R) 32 [.d (.int .i64 (xs.getD i ([],0)).2), .d (.int .i64 lo), .d (.int .i64 up)]=some (.d (.bool (inV lo up (xs.getD i ([],0)).2))):=Pg (xs.getD i ([],0)).2 lo up
    have r: (zs.length+1)*24≤Cv:=by unfold Cv;omega
    by_cases h:inV lo up (xs.getD i ([],0)).2=true
    ·simp only[h,if_true] at hf
     rw[h] at p2
     simp[Cn,-List.getD_eq_getElem?_getD,-List.map_map,Qz,g0,g1,g2,g7,g8,p1,c,g,hi,w1,hf,r,p1,p2,Dr]
    ·simp only[h,Bool.false_eq_true,if_false,List.append_nil] at hf
     rw[Bool.not_eq_true] at h
     rw[h] at p2
     simp[Cn,-List.getD_eq_getElem?_getD,-List.map_map,Qz,g0,g1,g2,g7,g8,p1,c,g,hi,w1,hf,p1,p2,Dr])
   xs.length 0 [(0, .d (Dr xs)),(1, .d (.int .i64 lo)),(2, .d (.int .i64 up)),(7, .slc (Bc H) 0 0 0),(8, .d (.int .i64 0))] (ap H [.row 0 2 []]) (by omega) ⟨[],by simp,rfl,rfl,rfl,rfl,rfl,rfl⟩).out
  simp[Cn,-List.getD_eq_getElem?_getD,-List.map_map,f153,p1,he,g7,Dr]
 |false=>
  rw[h1] at p1
  obtain⟨o,e',X',he,rfl,rfl,g7⟩: ∃o e' X',Bg (Bq (ev R) R.glob (Bc H) Bg Qz) [0,1,2,7,8] ⟨[(0, .d (Dr xs)),(1, .d (.int .i64 lo)),(2, .d (.int .i64 up)),(7, .slc (Bc H) 0 0 0),(8, .d (.int .i64 0))],ap H [.row 0 2 []]⟩=some (o,⟨e',X'⟩)∧o= .exit 0∧X'=ap H [.row 0 2 []]∧e'.get 7= .slc (Bc H) 0 0 0:=by
   have key: ∀e:Env,e.get 0= .d (Dr xs)→e.get 7= .slc (Bc H) 0 0 0→e.get 8= .d (.int .i64 0)→Gives (fun o e X=>o≠ .normal∧o= .exit 0∧X=ap H [.row 0 2 []]∧e.get 7= .slc (Bc H) 0 0 0) (Bq (ev R) R.glob (Bc H) Bg Qz ⟨e.keep [0,1,2,7,8],ap H [.row 0 2 []]⟩):=by
    intro e g0 g7 g8
    by_cases hz:0<xs.length
    ·have c: (0:Int)< (xs.length:Int):=by omega
     simp[Cn,-List.getD_eq_getElem?_getD,-List.map_map,Qz,g0,g7,g8,c,hz,p1,Dr]
    ·have c: ¬ (0:Int)< (xs.length:Int):=by omega
     simp[Cn,-List.getD_eq_getElem?_getD,-List.map_map,Qz,g0,g7,g8,c,hz,Dr]
   obtain⟨o,e',X',h1,h2,h3⟩:=(key [(0, .d (Dr xs)),(1, .d (.int .i64 lo)),(2, .d (.int .i64 up)),(7, .slc (Bc H) 0 0 0),(8, .d (.int .i64 0))] rfl rfl rfl).out
   exact⟨o,e',X',Gh h1 h2,h3⟩
  simp[Cn,-List.getD_eq_getElem?_getD,-List.map_map,f153,he,g7,Dr]
def Bia (k:Nat):Bp:=[[110,111,110,101],[115,116,114,105,110,103],[108,105,115,116],[115,101,116],[122,115,101,116],[104,97,115,104]].getD k []
theorem B30 (k:Int) (hk:0≤k∧k≤5):Be (ev R) 156 [.d (.int .i64 k)]=some (.d (.str (Bia k.toNat))):=Bb fun H=>by
 refine Bh (fn:=f156) rfl rfl ?_
 obtain rfl|rfl|rfl|rfl|rfl|rfl:k=0∨k=1∨k=2∨k=3∨k=4∨k=5:=by omega
 all_goals simp[Cn,-List.getD_eq_getElem?_getD,-List.map_map,f156,Bia,List.getD_cons_zero,List.getD_cons_succ]
def K9 (xs:List Bp) (t:Bp) (c most:Int) (i:Nat) (s:List Bp×Nat):List Bp×Nat:=
 if xs.getD i []=t∧(c=0∨(s.2:Int)<most) then(s.1,s.2+1) else(s.1++[xs.getD i []],s.2)
def Kc (xs:List Bp) (t:Bp) (c most:Int):List Bp×Nat:=(List.range' 0 xs.length).foldl (fun s i=>K9 xs t c most i s) ([],0)
theorem Bx7 (H:Hp) (xs:List Bp) (t:Bp) (c most:Int) (hx:xs.length≤1000000): ∃e',Bg (Bq (ev R) R.glob (Bc H) Bg R7) [1,2,8,9,10,11,12] ⟨[(1, .d (.int .i64 c)),(2, .d (.str t)),(8, .d (Bf xs)),(9, .d (.int .i64 most)),(10, .slc (Bc H) 0 0 0),(11, .d (.int .i64 0)),(12, .d (.int .i64 0))],ap H [.row 0 1 []]⟩=
  some (.exit 0,⟨e',ap H [.row (Kc xs t c most).1.length 1 (((Kc xs t c most).1.map D.str).map V.d)]⟩)∧e'.get 1= .d (.int .i64 c)∧e'.get 10= .slc (Bc H) (Kc xs t c most).1.length 0 (Kc xs t c most).1.length∧e'.get 11= .d (.int .i64 (Kc xs t c most).2)∧(Kc xs t c most).1.length+(Kc xs t c most).2=xs.length:=by
 have key:=Ww (F:=Bq (ev R) R.glob (Bc H) Bg R7) (lv:=[1,2,8,9,10,11,12]) (K9 xs t c most) xs.length
  (fun i s e X=>s.1.length+s.2=i∧X=ap H [.row s.1.length 1 ((s.1.map D.str).map V.d)]∧e.get 1= .d (.int .i64 c)∧e.get 2= .d (.str t)∧e.get 8= .d (Bf xs)∧e.get 9= .d (.int .i64 most)∧e.get 10= .slc (Bc H) s.1.length 0 s.1.length∧e.get 11= .d (.int .i64 s.2)∧e.get 12= .d (.int .i64 i))
  (fun s o e X=>o= .exit 0∧s.1.length+s.2=xs.length∧X=ap H [.row s.1.length 1 ((s.1.map D.str).map V.d)]∧e.get 1= .d (.int .i64 c)∧e.get 10= .slc (Bc H) s.1.length 0 s.1.length∧e.get 11= .d (.int .i64 s.2))
  (by
   rintro⟨zs,n⟩ e X ⟨hl,rfl,g1,g2,g8,g9,g10,g11,g12⟩
   dsimp only at*
   simp[Cn,-List.getD_eq_getElem?_getD,-List.map_map,R7,g1,g2,g8,g9,g10,g11,g12,eq_true hl,Bf])
  (by
   rintro i ⟨zs,n⟩ e X hi ⟨hl,rfl,g1,g2,g8,g9,g10,g11,g12⟩
   dsimp only at*
   have cc: (i:Int)< (xs.length:Int):=by omega
   have g:=Dv xs i hi
   have w1:IntKind.i64.wrap ((i:Int)+1)=(i:Int)+1:=IntWalk.i64_in _ (by omega)
   have w2:IntKind.i64.wrap ((n:Int)+1)=(n:Int)+1:=IntWalk.i64_in _ (by omega)
   have r: (zs.length+1)*16≤Cv:=by unfold Cv;omega
   have hl1: (zs.length+(n+1)=i+1)=True:=eq_true (by omega)
   have hl2: (zs.length+1+n=i+1)=True:=eq_true (by omega)
   by_cases a:xs.getD i []=t
   ·by_cases b:c=0
    ·simp[Cn,-List.getD_eq_getElem?_getD,-List.map_map,R7,g1,g2,g8,g9,g10,g11,g12,cc,hi,g,w1,w2,hl1,hl2,K9,eq_true a,eq_true b,Bf]
    ·by_cases d: (n:Int)<most
     ·simp[Cn,-List.getD_eq_getElem?_getD,-List.map_map,R7,g1,g2,g8,g9,g10,g11,g12,cc,hi,g,w1,w2,hl1,hl2,K9,eq_true a,eq_false b,eq_true d,Bf]
     ·simp[Cn,-List.getD_eq_getElem?_getD,-List.map_map,R7,g1,g2,g8,g9,g10,g11,g12,cc,hi,g,w1,w2,r,hl1,hl2,K9,eq_true a,eq_false b,eq_false d,Bf]
   ·simp[Cn,-List.getD_eq_getElem?_getD,-List.map_map,R7,g1,g2,g8,g9,g10,g11,g12,cc,hi,g,w1,w2,r,hl1,hl2,K9,eq_false a,Bf])
  xs.length 0 ([],0) [(1, .d (.int .i64 c)),(2, .d (.str t)),(8, .d (Bf xs)),(9, .d (.int .i64 most)),(10, .slc (Bc H) 0 0 0),(11, .d (.int .i64 0)),(12, .d (.int .i64 0))] (ap H [.row 0 1 []]) (by omega) ⟨rfl,rfl,rfl,rfl,rfl,rfl,rfl,rfl,rfl⟩
 obtain⟨o,e',X',he,rfl,hl,rfl,g1,g10,g11⟩:=key.out
 exact⟨e',he,g1,g10,g11,hl⟩
def Yg (xs:List Bp) (c:Int) (t:Bp):List Bp×Nat:=
 if c<0 then((Kc xs.reverse t c (-c)).1.reverse,(Kc xs.reverse t c (-c)).2) else Kc xs t c c
theorem B3o (xs:List Bp) (c:Int) (t:Bp) (hx:xs.length≤1000000):Be (ev R) 139 [.d (Bf xs), .d (.int .i64 c), .d (.str t)]=
  some (if Cq xs=true∧J6 c=true then .tup [.d (Bf (Yg xs c t).1), .d (.int .i64 (Yg xs c t).2)] else .tup [.d (Bf []), .d (.int .i64 0)]):=Bb fun H=>by
 refine Bh (fn:=f139) rfl rfl ?_
 have p1:=Bkl xs (by omega)
 have p2:Be (ev R) 163 [.d (.int .i64 c)]=some (.d (.bool (J6 c))):=Bdp c
 have p5:=Bct xs hx
 have p6:=Uj xs hx
 have p7:=fun H=>D8 (Byf xs hx) H
 cases h1:Cq xs with
 |false=>rw[h1] at p1;simp[Cn,-List.getD_eq_getElem?_getD,-List.map_map,f139,p1,p2,Bf]
 |true=>
  rw[h1] at p1
  cases h2:J6 c with
  |false=>rw[h2] at p2;simp[Cn,-List.getD_eq_getElem?_getD,-List.map_map,f139,p1,p2,Bf]
  |true=>
   rw[h2] at p2
   unfold J6 at h2
   simp only[Bool.and_eq_true,decide_eq_true_eq] at h2
   unfold Yg
   by_cases hc:c<0
   ·have w:IntKind.i64.wrap (-c)= -c:=IntWalk.i64_in _ (by omega)
    obtain⟨e',he,g1,g10,g11,hl⟩:=Bx7 H xs.reverse t c (-c) (by rw[List.length_reverse];exact hx)
    have hrl:xs.reverse.length=xs.length:=List.length_reverse
    simp only[if_pos hc]
    generalize xs.reverse=ys at*
    generalize Kc ys t c (-c)=A at*
    obtain⟨zs,n⟩:=A
    dsimp only at*
    have p8:=fun H=>D8 (Byf zs (by omega)) H
    generalize zs.reverse=us at*
    have ft:List.take zs.length (zs.map D.str)=zs.map D.str:=List.take_of_length_le (by simp)
    simp[Cn,-List.getD_eq_getElem?_getD,-List.map_map,f139,p1,p2,p5,p6,p7,p8,eq_true hc,w,he,g1,g10,g11,ft,Bf]
   ·obtain⟨e',he,g1,g10,g11,hl⟩:=Bx7 H xs t c c hx
    simp only[if_neg hc]
    generalize Kc xs t c c=A at*
    obtain⟨zs,n⟩:=A
    dsimp only at*
    have ft:List.take zs.length ((zs.map D.str).map V.d)=(zs.map D.str).map V.d:=List.take_of_length_le (by simp)
    simp[Cn,-List.getD_eq_getElem?_getD,-List.map_map,f139,p1,p2,p5,p6,p7,eq_false hc,he,g1,g10,g11,ft,Bf]
end Go.Proofs.YtjdmiodinhlchaaGreat.Code

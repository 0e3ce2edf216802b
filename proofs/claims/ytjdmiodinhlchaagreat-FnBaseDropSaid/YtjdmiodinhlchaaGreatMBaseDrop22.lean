/- Lemmas (several texts in one). -/
import Derived.Test.YtjdmiodinhlchaaGreatMBaseDrop4
import Derived.Test.YtjdmiodinhlchaaGreatMBaseDrop7
import Derived.Test.YtjdmiodinhlchaaGreatMBaseDrop8
import Derived.Test.YtjdmiodinhlchaaGreatMBaseDrop9
import Derived.Test.YtjdmiodinhlchaaGreatMBaseDrop15
set_option maxRecDepth 100000
set_option linter.unusedSimpArgs false
set_option linter.unusedVariables false
set_option maxHeartbeats 2000000
namespace Go.Proofs.YtjdmiodinhlchaaGreat.Code
open Go Go.Ev Go.Proofs
def Dy (bs:List Int):Nat→Int→List Bm
 |0,_=> []
 |n+1,p=>P9 bs p::Dy bs n (p+1)
theorem Jm (bs:List Int): ∀ (n:Nat) (p:Int),(Dy bs n p).length=n
 |0,_=>rfl
 |n+1,p=>by simp[Dy,Jm bs n (p+1)]
def Gk (k:Nat) (ts:List Bm):Ev.Obj:= .row k 1 ((ts.map D.str).map V.d)
theorem Bbk {H:Hp} {r:Nat} {o:Ev.Obj} {bs:List Int} {p:Int} (h:B6 H r=some (rd bs p)) (q:Int):B6 (Bp (Bu H r (rd bs q)) o) r=some (rd bs q):=by
 have hl:=Dj h
 rw[Da _ (by rw[Bq];exact hl),Cd _ hl]
theorem W4 {H:Hp} {k:Nat} {ts:List Bm} {n:Nat} (hn:n=Bc H):Cm (Bp H (Gk k ts)) n k=some (1,(ts.map D.str).map V.d):=by
 subst hn;exact Ci _ _ _ _
theorem Bms {H:Hp} {k:Nat} {ts:List Bm} {t:Bm} {n:Nat} (hn:n=Bc H) (o:Ev.Obj):Bu (Bp H o) n (.row k 1 ((ts.map D.str).map V.d++[.d (.str t)]))=Bp H (Gk k (ts++[t])):=by
 subst hn
 rw[Mh]
 simp[Gk]
theorem Br4 (n0:Nat) (H:Hp) (r:Nat) (bs:List Int) (p0:Int) (h:B6 H r=some (rd bs p0)) (hb:Cz bs): ∀ (n k:Nat) (ts:List Bm) (p:Int) (e:Env),n≤1000→ts.length+n≤1000000→0≤p→p+n≤1000000000000→e.get 0= .ptr r 0 0 0→e.get 5= .slc (Bc H) k 0 ts.length→e.get 6= .d (.int .i64 n)→
  ∃e',Bg (Bo (ev R) R.glob n0 Bg Ur) [0,5,6] ⟨e,Bp (Bu H r (rd bs p)) (Gk k ts)⟩=some (.exit 0,⟨e',Bp (Bu H r (rd bs (p+n))) (Gk (k+n) (ts++Dy bs n p))⟩)∧e'.get 5= .slc (Bc H) (k+n) 0 (ts.length+n)
 |0,k,ts,p,e,hn,hl,hp,hp2,h0,h5,h6=>by
  rw[Bz]
  refine⟨?_, ?_, ?_⟩
  rotate_left
  ·simp[B9,-List.getD_eq_getElem?_getD,-List.map_map,Ur,h0,h5,h6,Dy]
   rfl
  ·simp[B9,-List.getD_eq_getElem?_getD,-List.map_map,h5]
 |n+1,k,ts,p,e,hn,hl,hp,hp2,h0,h5,h6=>by
  have c: (0:Int)< ((n+1:Nat):Int):=by omega
  have w1:IntKind.i64.wrap (((n+1:Nat):Int) - 1)=(n:Int):=by rw[IntWalk.i64_in _ (by omega)];omega
  obtain⟨m,hm⟩: ∃m:Int,((n+1:Nat):Int)=m:=⟨_,rfl⟩
  rw[hm] at c w1 h6
  have hg:=Bbk (o:=Gk k ts) h p
  have q:=Bu2 (Bp (Bu H r (rd bs p)) (Gk k ts)) r bs p hg hb hp (by omega)
  have hl2:Bc H=Bc (Bu H r (rd bs (p+1))):=(Bq _ _ _).symm
  have hlt:=Dj h
  have e1:Bu (Bp (Bu H r (rd bs p)) (Gk k ts)) r (rd bs (p+1))=Bp (Bu H r (rd bs (p+1))) (Gk k ts):=by
   rw[Kz (by rw[Bq];exact hlt),J1]
  rw[e1] at q
  have q2:=W4 (k:=k) (ts:=ts) hl2
  have q3:=Bms (k:=k+1) (ts:=ts) (t:=P9 bs p) hl2 (Gk k ts)
  have rm: (ts.length+1)*16≤Cb:=by unfold Cb;omega
  have ih:=Br4 n0 H r bs p0 h hb n (k+1) (ts++[P9 bs p]) (p+1)
  have r1:p+((n+1:Nat):Int)=p+1+n:=by omega
  have r2:k+(n+1)=k+1+n:=by omega
  have r3:ts++Dy bs (n+1) p=(ts++[P9 bs p])++Dy bs n (p+1):=by simp[Dy]
  have r4:ts.length+(n+1)=(ts++[P9 bs p]).length+n:=by simp;omega
  rw[r1,r2,r3,r4]
  generalize Bp (Bu H r (rd bs (p+1+(n:Int)))) (Gk (k+1+n) (ts++[P9 bs p]++Dy bs n (p+1)))=HX at ih⊢
  generalize hL: (ts++[P9 bs p]).length=L at ih⊢
  have hL':L=ts.length+1:=by rw[←hL];simp
  generalize k+1+n=K at ih⊢
  rw[Bz]
  generalize Bg (Bo (ev R) R.glob n0 Bg Ur) [0,5,6]=F at ih⊢
  subst hL'
  simp[B9,-List.getD_eq_getElem?_getD,-List.map_map,Ur,h0,h5,h6,c,w1,q,q2,q3,rm,Nc]
  refine ih _ (by omega) (by omega) (by omega) (by omega) ?_ ?_ ?_<;>rfl
theorem Ua: ∀ (ds:List D),Fi (ds.map V.d)=some ds
 | []=>rfl
 |d::ds=>by simp only[List.map_cons,Fi,Ua ds]
theorem Buo (H:Hp) (r:Nat) (bs:List Int) (p most:Int) (h:B6 H r=some (rd bs p)) (hb:Cz bs) (hp:0≤p) (hp2:p≤100000000000) (hm:0≤most∧most≤900):
  ev R 101 [.ptr r 0 0 0, .d (.int .i64 most)] H=some (.slc (Bc H) 0 0 (Cr bs p (most+1)).toNat,Bp (Bu H r (rd bs (p+1+(Cr bs p (most+1)).toNat))) (Gk 0 (Dy bs (Cr bs p (most+1)).toNat (p+1)))):=by
 refine Bi (fn:=f101) rfl rfl ?_
 obtain⟨k0,k1⟩:=Gg bs p (most+1) hb hp (by omega)
 have k1:=k1 (by omega)
 have w:IntKind.i64.wrap (most+1)=most+1:=IntWalk.i64_in _ (by omega)
 have hlt:=Dj h
 have hg:B6 (Bp H (.row 0 1 [])) r=some (rd bs p):=by rw[Da _ hlt];exact h
 have q:=Ble (Bp H (.row 0 1 [])) r bs p (most+1) hg hb hp (by omega)
 rw[Kz hlt] at q
 obtain⟨N,hN⟩: ∃N,(Cr bs p (most+1)).toNat=N:=⟨_,rfl⟩
 have hN':Cr bs p (most+1)=(N:Int):=by omega
 rw[hN]
 rw[hN'] at q
 obtain⟨e',he,h5⟩:=Br4 (Bc H) H r bs p h hb N 0 [] (p+1) [(0, .ptr r 0 0 0),(5, .slc (Bc H) 0 0 0),(6, .d (.int .i64 N))] (by omega) (by simp;omega) (by omega) (by omega) rfl rfl rfl
 have hl2:Bc H=Bc (Bu H r (rd bs (p+1+(N:Int)))):=(Bq _ _ _).symm
 have ht:Ck (Bp (Bu H r (rd bs (p+1+(N:Int)))) (Gk (0+N) ([]++Dy bs N (p+1)))) (Bc H)=Bu H r (rd bs (p+1+(N:Int))):=by
  rw[hl2];exact Df _ _
 have hr:=W4 (H:=Bu H r (rd bs (p+1+(N:Int)))) (k:=0+N) (ts:=[]++Dy bs N (p+1)) hl2
 have e0:Gk 0 []= .row 0 1 []:=rfl
 rw[e0] at he
 have a:=Ua ((([]:List Bm)++Dy bs N (p+1)).map D.str)
 have hfin:Bp (Bu H r (rd bs (p+1+(N:Int)))) (.row 0 1 (((([]:List Bm)++Dy bs N (p+1)).map D.str).map V.d))=Bp (Bu H r (rd bs (p+1+(N:Int)))) (Gk 0 (Dy bs N (p+1))):=rfl
 rw[←hfin]
 generalize Bu H r (rd bs (p+1+(N:Int)))=X at he hl2 ht hr⊢
 generalize((([]:List Bm)++Dy bs N (p+1)).map D.str).map V.d=xs at a hr⊢
 generalize Gk (0+N) ([]++Dy bs N (p+1))=o at he ht hr
 have nl: ¬Bc H<Bc H:=by omega
 have len: ([]:List Bm).length+N=N:=by simp
 rw[len] at h5
 simp only[List.length_nil,Nat.zero_add] at hr h5⊢
 have hl3:=hl2.symm
 simp[B9,-List.getD_eq_getElem?_getD,-List.map_map,f101,w,q,he,h5,ht,hr,a,nl,hl3,Un]
theorem l_9 (n0:Nat) (xs:List Bm) (hx:xs.length≤9223372036854775807) (ys:List Bm) (hy:ys.length=xs.length) (H:Hp): ∀ (n i:Nat) (e:Env),i+n=xs.length→e.get 0= .d (Bf xs)→e.get 1= .d (Bf ys)→e.get 5= .d (.int .i64 i)→
  ∃e',Bg (Bo (ev R) R.glob n0 Bg Bik) [0,1,5] ⟨e,H⟩=some ((match Ds (L2 xs ys) n i with|some _=> .ret|none=> .exit 0),⟨e',H⟩)∧
   (∀j,Ds (L2 xs ys) n i=some j→e'.get 4= .d (.bool false))
 |0,i,e,hn,h0,h1,h5=>by
  have c: ¬ (i:Int)< (xs.length:Int):=by omega
  have c': ¬i<xs.length:=by omega
  have gy:i<ys.length→(ys.map D.str).getD i .nilp= .str (ys.getD i []):=fun h=>Cw ys i h
  rw[Bz]
  refine⟨?_, ?_, ?_⟩
  rotate_left
  ·simp[B9,-List.getD_eq_getElem?_getD,-List.map_map,Bik,h0,h1,h5,Bf,c,c',Ds,hy,gy]
   rfl
  ·intro j hj;simp[Ds] at hj
 |n+1,i,e,hn,h0,h1,h5=>by
  have c: (i:Int)< (xs.length:Int):=by omega
  have c':i<xs.length:=by omega
  have g:=Cw xs i c'
  have w1:IntKind.i64.wrap ((i:Int)+1)=((i+1:Nat):Int):=by rw[IntWalk.i64_in _ (by omega)];rfl
  have gy:i<ys.length→(ys.map D.str).getD i .nilp= .str (ys.getD i []):=fun h=>Cw ys i h
  have ih:=l_9 n0 xs hx ys hy H n (i+1)
  rw[Bz]
  generalize Bg (Bo (ev R) R.glob n0 Bg Bik) [0,1,5]=F at ih⊢
  by_cases hb: ¬xs.getD i []=ys.getD i []
  ·skip
   refine⟨?_, ?_, ?_⟩
   rotate_left
   ·simp[B9,-List.getD_eq_getElem?_getD,-List.map_map,Bik,h0,h1,h5,Bf,c,c',g,Ds,L2,hb,hy,gy]
    rfl
   ·intro j hj
    simp[Ds,L2,hb,-List.getD_eq_getElem?_getD] at hj
    try subst hj
    simp[B9,-List.getD_eq_getElem?_getD,-List.map_map]
  ·rw[Classical.not_not] at hb
   have hs:Ds (L2 xs ys) (n+1) i=Ds (L2 xs ys) n (i+1):=by simp[Ds,L2,hb,-List.getD_eq_getElem?_getD]
   rw[hs]
   simp[B9,-List.getD_eq_getElem?_getD,-List.map_map,Bik,h0,h1,h5,Bf,c,c',g,w1,hb,hy,gy]
   refine ih _ (by omega) ?_ ?_ ?_<;>rfl
theorem Blg (H:Hp) (xs:List Bm) (hx:xs.length≤9223372036854775807):ev R 9 [.d (Bf xs), .d (Bf xs)] H=some (.d (.bool true),H):=by
 refine Bi (fn:=f9) rfl rfl ?_
 obtain⟨e',he,h1⟩:=l_9 (Bc H) xs hx xs rfl H xs.length 0 [(0, .d (Bf xs)),(1, .d (Bf xs)),(5, .d (.int .i64 0))] (by omega) rfl rfl rfl
 have hr:Ds (L2 xs xs) xs.length 0=none:=by
  cases hr:Ds (L2 xs xs) xs.length 0 with
  |none=>rfl
  |some j=>
   have:=(Pu hr).2.2.1
   simp[L2] at this
 simp only[hr] at he
 simp[B9,-List.getD_eq_getElem?_getD,-List.map_map,f9,he]
theorem Bmb (xs:List Bm) (hx:xs.length≤9223372036854775807):Be (ev R) 9 [.d (Bf xs), .d (Bf xs)]=some (.d (.bool true)):=Bb fun H=>Blg H xs hx
theorem Bi5 (xs:List Sc) (hx:xs.length≤1000000):Be (ev R) 38 [.d (Cs xs), .d (Cs xs)]=some (.d (.bool true)):=Bb fun H=>by
 refine Bi (fn:=f38) rfl rfl ?_
 obtain⟨o,e',X',he,rfl,rfl⟩:=(Cl (F:=Bo (ev R) R.glob (Bc H) Bg Bg1) (lv:=[0,1,5]) xs.length
  (fun i e X=>X=H∧e.get 0= .d (Cs xs)∧e.get 1= .d (Cs xs)∧e.get 5= .d (.int .i64 i))
  (fun o e X=>o= .exit 0∧X=H)
  (by
   rintro e X ⟨rfl,g0,g1,g5⟩
   simp(maxSteps:=1000000) [Ca,-List.getD_eq_getElem?_getD,-List.map_map,Bg1,g0,g1,g5])
  (by
   rintro i e X hi ⟨rfl,g0,g1,g5⟩
   have c: (i:Int)< (xs.length:Int):=by omega
   have c0: (0:Int)≤(i:Int):=by omega
   have g:=Lx xs i hi
   have w1:IntKind.i64.wrap ((i:Int)+1)=((i+1:Nat):Int):=by rw[IntWalk.i64_in _ (by omega)];rfl
   generalize xs.getD i ([],0)=x at*
   obtain⟨t,n⟩:=x
   simp[evA,-List.getD_eq_getElem?_getD,-List.map_map,Bg1,g0,g1,g5,c,c0,g,hi,w1,F7,W8,Ry,Qh])
  xs.length 0 [(0, .d (Cs xs)),(1, .d (Cs xs)),(5, .d (.int .i64 0))] H (by omega) ⟨rfl,rfl,rfl,rfl⟩).out
 simp(maxSteps:=1000000) [Ca,-List.getD_eq_getElem?_getD,-List.map_map,f38,he]
theorem Bi6 (xs:List Pr) (hx:xs.length≤1000000):Be (ev R) 39 [.d (Dp xs), .d (Dp xs)]=some (.d (.bool true)):=Bb fun H=>by
 refine Bi (fn:=f39) rfl rfl ?_
 obtain⟨o,e',X',he,rfl,rfl⟩:=(Cl (F:=Bo (ev R) R.glob (Bc H) Bg Bg2) (lv:=[0,1,5]) xs.length
  (fun i e X=>X=H∧e.get 0= .d (Dp xs)∧e.get 1= .d (Dp xs)∧e.get 5= .d (.int .i64 i))
  (fun o e X=>o= .exit 0∧X=H)
  (by
   rintro e X ⟨rfl,g0,g1,g5⟩
   simp(maxSteps:=1000000) [Ca,-List.getD_eq_getElem?_getD,-List.map_map,Bg2,g0,g1,g5])
  (by
   rintro i e X hi ⟨rfl,g0,g1,g5⟩
   have c: (i:Int)< (xs.length:Int):=by omega
   have c0: (0:Int)≤(i:Int):=by omega
   have g:=Rg xs i hi
   have w1:IntKind.i64.wrap ((i:Int)+1)=((i+1:Nat):Int):=by rw[IntWalk.i64_in _ (by omega)];rfl
   generalize xs.getD i ([],[])=x at*
   obtain⟨t,n⟩:=x
   simp[evA,-List.getD_eq_getElem?_getD,-List.map_map,Bg2,g0,g1,g5,c,c0,g,hi,w1,F7,W8,Ry,Qh])
  xs.length 0 [(0, .d (Dp xs)),(1, .d (Dp xs)),(5, .d (.int .i64 0))] H (by omega) ⟨rfl,rfl,rfl,rfl⟩).out
 simp(maxSteps:=1000000) [Ca,-List.getD_eq_getElem?_getD,-List.map_map,f39,he]
theorem Yp (e:En) (h1:e.list.length≤1000000) (h2:e.scores.length≤1000000) (h3:e.fields.length≤1000000):Be (ev R) 17 [.d (Dw e), .d (Dw e)]=some (.d (.bool true)):=Bb fun H=>by
 refine Bi (fn:=f17) rfl rfl ?_
 have p1:=Bmb e.list (by omega)
 have p2:=Bi5 e.scores h2
 have p3:=Bi6 e.fields h3
 simp[B4,-List.getD_eq_getElem?_getD,-List.map_map,f17,p1,p2,p3]
theorem Bi4 (b:Ba) (hl:b.ents.length≤1000000) (h: ∀e∈b.ents,e.list.length≤1000000∧e.scores.length≤1000000∧e.fields.length≤1000000):Be (ev R) 15 [.d (Cv b), .d (Cv b)]=some (.d (.bool true)):=Bb fun H=>by
 refine Bi (fn:=f15) rfl rfl ?_
 obtain⟨o,e',X',he,rfl,ht⟩:=(Cl (F:=Bo (ev R) R.glob (Bc H) Bg Bg0) (lv:=[2,3,5]) b.ents.length
  (fun i e X=>X=ap H [.row 0 2 [.d (Cv b)], .row 0 2 [.d (Cv b)]]∧e.get 2= .ptr (Bc H) 0 0 0∧e.get 3= .ptr (Bc H+1) 0 0 0∧e.get 5= .d (.int .i64 i))
  (fun o e X=>o= .exit 0∧Ck X (Bc H)=H)
  (by
   rintro e X ⟨rfl,g2,g3,g5⟩
   simp[B4,-List.getD_eq_getElem?_getD,-List.map_map,Bg0,g2,g3,g5])
  (by
   rintro i e X hi ⟨rfl,g2,g3,g5⟩
   have c: (i:Int)< (b.ents.length:Int):=by omega
   have c0: (0:Int)≤(i:Int):=by omega
   have g:=F4 b.ents i hi
   have w1:IntKind.i64.wrap ((i:Int)+1)=((i+1:Nat):Int):=by rw[IntWalk.i64_in _ (by omega)];rfl
   have hh:=h _ (Fz hi:b.ents.getD i default∈b.ents)
   have p:=Yp (b.ents.getD i default) hh.1 hh.2.1 hh.2.2
   generalize b.ents.getD i default=x at*
   simp[B4,-List.getD_eq_getElem?_getD,-List.map_map,Bg0,g2,g3,g5,c,c0,g,hi,w1,p])
  b.ents.length 0 [(2, .ptr (Bc H) 0 0 0),(3, .ptr (Bc H+1) 0 0 0),(5, .d (.int .i64 0))] (ap H [.row 0 2 [.d (Cv b)], .row 0 2 [.d (Cv b)]]) (by omega) ⟨rfl,rfl,rfl,rfl⟩).out
 simp[B4,-List.getD_eq_getElem?_getD,-List.map_map,f15,he,ht]
theorem Baj {b:Ba} (h:BaSm b):Be (ev R) 15 [.d (Cv b), .d (Cv b)]=some (.d (.bool true)):=
 Bi4 b h.len fun e he=> ⟨(h.each e he).list,(h.each e he).scores,(h.each e he).fields⟩
theorem Bai {e:En} (h:EnSm e):Be (ev R) 17 [.d (Dw e), .d (Dw e)]=some (.d (.bool true)):=Yp e h.list h.scores h.fields
end Go.Proofs.YtjdmiodinhlchaaGreat.Code

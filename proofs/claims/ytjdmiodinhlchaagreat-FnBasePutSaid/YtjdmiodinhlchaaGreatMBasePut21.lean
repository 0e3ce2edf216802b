/- Lemmas (several texts in one). -/
import Derived.Test.YtjdmiodinhlchaaGreatMBasePut4
import Derived.Test.YtjdmiodinhlchaaGreatMBasePut7
import Derived.Test.YtjdmiodinhlchaaGreatMBasePut8
import Derived.Test.YtjdmiodinhlchaaGreatMBasePut9
import Derived.Test.YtjdmiodinhlchaaGreatMBasePut15
set_option maxRecDepth 100000
set_option linter.unusedSimpArgs false
set_option linter.unusedVariables false
set_option maxHeartbeats 2000000
namespace Go.Proofs.YtjdmiodinhlchaaGreat.Code
open Go Go.Ev Go.Proofs
def F5 (bs:List Int):Nat→Int→List Bp
 |0,_=> []
 |n+1,p=>Lh bs p::F5 bs n (p+1)
theorem K3 (bs:List Int): ∀ (n:Nat) (p:Int),(F5 bs n p).length=n
 |0,_=>rfl
 |n+1,p=>by simp[F5,K3 bs n (p+1)]
def J8 (k:Nat) (ts:List Bp):Ev.Obj:= .row k 1 ((ts.map D.str).map V.d)
theorem Bgk {H:Hp} {r:Nat} {o:Ev.Obj} {bs:List Int} {p:Int} (h:Ce H r=some (rd bs p)) (q:Int):Ce (Bt (Bv H r (rd bs q)) o) r=some (rd bs q):=by
 have hl:=Dy h
 rw[Fg _ (by rw[Br];exact hl),Cw _ hl]
theorem Bb8 {H:Hp} {k:Nat} {ts:List Bp} {n:Nat} (hn:n=Bc H):Di (Bt H (J8 k ts)) n k=some (1,(ts.map D.str).map V.d):=by
 subst hn;exact Dj _ _ _ _
theorem Bsd {H:Hp} {k:Nat} {ts:List Bp} {t:Bp} {n:Nat} (hn:n=Bc H) (o:Ev.Obj):Bv (Bt H o) n (.row k 1 ((ts.map D.str).map V.d++[.d (.str t)]))=Bt H (J8 k (ts++[t])):=by
 subst hn
 rw[Qj]
 simp[J8]
theorem Bx5 (n0:Nat) (H:Hp) (r:Nat) (bs:List Int) (p0:Int) (h:Ce H r=some (rd bs p0)) (hb:Cy bs): ∀ (n k:Nat) (ts:List Bp) (p:Int) (e:Env),n≤1000→ts.length+n≤1000000→0≤p→p+n≤1000000000000→e.get 0= .ptr r 0 0 0→e.get 5= .slc (Bc H) k 0 ts.length→e.get 6= .d (.int .i64 n)→
  ∃e',Bg (Bq (ev R) R.glob n0 Bg Bas) [0,5,6] ⟨e,Bt (Bv H r (rd bs p)) (J8 k ts)⟩=some (.exit 0,⟨e',Bt (Bv H r (rd bs (p+n))) (J8 (k+n) (ts++F5 bs n p))⟩)∧e'.get 5= .slc (Bc H) (k+n) 0 (ts.length+n)
 |0,k,ts,p,e,hn,hl,hp,hp2,h0,h5,h6=>by
  rw[Co]
  refine⟨?_, ?_, ?_⟩
  rotate_left
  ·simp[Cu,-List.getD_eq_getElem?_getD,-List.map_map,Bas,h0,h5,h6,F5]
   rfl
  ·simp[Cu,-List.getD_eq_getElem?_getD,-List.map_map,h5]
 |n+1,k,ts,p,e,hn,hl,hp,hp2,h0,h5,h6=>by
  have c: (0:Int)< ((n+1:Nat):Int):=by omega
  have w1:IntKind.i64.wrap (((n+1:Nat):Int) - 1)=(n:Int):=by rw[IntWalk.i64_in _ (by omega)];omega
  obtain⟨m,hm⟩: ∃m:Int,((n+1:Nat):Int)=m:=⟨_,rfl⟩
  rw[hm] at c w1 h6
  have hg:=Bgk (o:=J8 k ts) h p
  have q:=By8 (Bt (Bv H r (rd bs p)) (J8 k ts)) r bs p hg hb hp (by omega)
  have hl2:Bc H=Bc (Bv H r (rd bs (p+1))):=(Br _ _ _).symm
  have hlt:=Dy h
  have e1:Bv (Bt (Bv H r (rd bs p)) (J8 k ts)) r (rd bs (p+1))=Bt (Bv H r (rd bs (p+1))) (J8 k ts):=by
   rw[Nf (by rw[Br];exact hlt),Lg]
  rw[e1] at q
  have q2:=Bb8 (k:=k) (ts:=ts) hl2
  have q3:=Bsd (k:=k+1) (ts:=ts) (t:=Lh bs p) hl2 (J8 k ts)
  have rm: (ts.length+1)*16≤Cv:=by unfold Cv;omega
  have ih:=Bx5 n0 H r bs p0 h hb n (k+1) (ts++[Lh bs p]) (p+1)
  have r1:p+((n+1:Nat):Int)=p+1+n:=by omega
  have r2:k+(n+1)=k+1+n:=by omega
  have r3:ts++F5 bs (n+1) p=(ts++[Lh bs p])++F5 bs n (p+1):=by simp[F5]
  have r4:ts.length+(n+1)=(ts++[Lh bs p]).length+n:=by simp;omega
  rw[r1,r2,r3,r4]
  generalize Bt (Bv H r (rd bs (p+1+(n:Int)))) (J8 (k+1+n) (ts++[Lh bs p]++F5 bs n (p+1)))=HX at ih⊢
  generalize hL: (ts++[Lh bs p]).length=L at ih⊢
  have hL':L=ts.length+1:=by rw[←hL];simp
  generalize k+1+n=K at ih⊢
  rw[Co]
  generalize Bg (Bq (ev R) R.glob n0 Bg Bas) [0,5,6]=F at ih⊢
  subst hL'
  simp[Cu,-List.getD_eq_getElem?_getD,-List.map_map,Bas,h0,h5,h6,c,w1,q,q2,q3,rm,Rm]
  refine ih _ (by omega) (by omega) (by omega) (by omega) ?_ ?_ ?_<;>rfl
theorem Bac: ∀ (ds:List D),Gw (ds.map V.d)=some ds
 | []=>rfl
 |d::ds=>by simp only[List.map_cons,Gw,Bac ds]
theorem Bxy (H:Hp) (r:Nat) (bs:List Int) (p most:Int) (h:Ce H r=some (rd bs p)) (hb:Cy bs) (hp:0≤p) (hp2:p≤100000000000) (hm:0≤most∧most≤900):
  ev R 101 [.ptr r 0 0 0, .d (.int .i64 most)] H=some (.slc (Bc H) 0 0 (Cr bs p (most+1)).toNat,Bt (Bv H r (rd bs (p+1+(Cr bs p (most+1)).toNat))) (J8 0 (F5 bs (Cr bs p (most+1)).toNat (p+1)))):=by
 refine Bh (fn:=f101) rfl rfl ?_
 obtain⟨k0,k1⟩:=Gd bs p (most+1) hb hp (by omega)
 have k1:=k1 (by omega)
 have w:IntKind.i64.wrap (most+1)=most+1:=IntWalk.i64_in _ (by omega)
 have hlt:=Dy h
 have hg:Ce (Bt H (.row 0 1 [])) r=some (rd bs p):=by rw[Fg _ hlt];exact h
 have q:=Bnu (Bt H (.row 0 1 [])) r bs p (most+1) hg hb hp (by omega)
 rw[Nf hlt] at q
 obtain⟨N,hN⟩: ∃N,(Cr bs p (most+1)).toNat=N:=⟨_,rfl⟩
 have hN':Cr bs p (most+1)=(N:Int):=by omega
 rw[hN]
 rw[hN'] at q
 obtain⟨e',he,h5⟩:=Bx5 (Bc H) H r bs p h hb N 0 [] (p+1) [(0, .ptr r 0 0 0),(5, .slc (Bc H) 0 0 0),(6, .d (.int .i64 N))] (by omega) (by simp;omega) (by omega) (by omega) rfl rfl rfl
 have hl2:Bc H=Bc (Bv H r (rd bs (p+1+(N:Int)))):=(Br _ _ _).symm
 have ht:Dl (Bt (Bv H r (rd bs (p+1+(N:Int)))) (J8 (0+N) ([]++F5 bs N (p+1)))) (Bc H)=Bv H r (rd bs (p+1+(N:Int))):=by
  rw[hl2];exact Fp _ _
 have hr:=Bb8 (H:=Bv H r (rd bs (p+1+(N:Int)))) (k:=0+N) (ts:=[]++F5 bs N (p+1)) hl2
 have e0:J8 0 []= .row 0 1 []:=rfl
 rw[e0] at he
 have a:=Bac ((([]:List Bp)++F5 bs N (p+1)).map D.str)
 have hfin:Bt (Bv H r (rd bs (p+1+(N:Int)))) (.row 0 1 (((([]:List Bp)++F5 bs N (p+1)).map D.str).map V.d))=Bt (Bv H r (rd bs (p+1+(N:Int)))) (J8 0 (F5 bs N (p+1))):=rfl
 rw[←hfin]
 generalize Bv H r (rd bs (p+1+(N:Int)))=X at he hl2 ht hr⊢
 generalize((([]:List Bp)++F5 bs N (p+1)).map D.str).map V.d=xs at a hr⊢
 generalize J8 (0+N) ([]++F5 bs N (p+1))=o at he ht hr
 have nl: ¬Bc H<Bc H:=by omega
 have len: ([]:List Bp).length+N=N:=by simp
 rw[len] at h5
 simp only[List.length_nil,Nat.zero_add] at hr h5⊢
 have hl3:=hl2.symm
 simp[Cu,-List.getD_eq_getElem?_getD,-List.map_map,f101,w,q,he,h5,ht,hr,a,nl,hl3,Ug]
theorem l_9 (n0:Nat) (xs:List Bp) (hx:xs.length≤9223372036854775807) (ys:List Bp) (hy:ys.length=xs.length) (H:Hp): ∀ (n i:Nat) (e:Env),i+n=xs.length→e.get 0= .d (Bf xs)→e.get 1= .d (Bf ys)→e.get 5= .d (.int .i64 i)→
  ∃e',Bg (Bq (ev R) R.glob n0 Bg Bny) [0,1,5] ⟨e,H⟩=some ((match Fz (P5 xs ys) n i with|some _=> .ret|none=> .exit 0),⟨e',H⟩)∧
   (∀j,Fz (P5 xs ys) n i=some j→e'.get 4= .d (.bool false))
 |0,i,e,hn,h0,h1,h5=>by
  have c: ¬ (i:Int)< (xs.length:Int):=by omega
  have c': ¬i<xs.length:=by omega
  have gy:i<ys.length→(ys.map D.str).getD i .nilp= .str (ys.getD i []):=fun h=>Dv ys i h
  rw[Co]
  refine⟨?_, ?_, ?_⟩
  rotate_left
  ·simp[Cu,-List.getD_eq_getElem?_getD,-List.map_map,Bny,h0,h1,h5,Bf,c,c',Fz,hy,gy]
   rfl
  ·intro j hj;simp[Fz] at hj
 |n+1,i,e,hn,h0,h1,h5=>by
  have c: (i:Int)< (xs.length:Int):=by omega
  have c':i<xs.length:=by omega
  have g:=Dv xs i c'
  have w1:IntKind.i64.wrap ((i:Int)+1)=((i+1:Nat):Int):=by rw[IntWalk.i64_in _ (by omega)];rfl
  have gy:i<ys.length→(ys.map D.str).getD i .nilp= .str (ys.getD i []):=fun h=>Dv ys i h
  have ih:=l_9 n0 xs hx ys hy H n (i+1)
  rw[Co]
  generalize Bg (Bq (ev R) R.glob n0 Bg Bny) [0,1,5]=F at ih⊢
  by_cases hb: ¬xs.getD i []=ys.getD i []
  ·skip
   refine⟨?_, ?_, ?_⟩
   rotate_left
   ·simp[Cu,-List.getD_eq_getElem?_getD,-List.map_map,Bny,h0,h1,h5,Bf,c,c',g,Fz,P5,hb,hy,gy]
    rfl
   ·intro j hj
    simp[Fz,P5,hb,-List.getD_eq_getElem?_getD] at hj
    try subst hj
    simp[Cu,-List.getD_eq_getElem?_getD,-List.map_map]
  ·rw[Classical.not_not] at hb
   have hs:Fz (P5 xs ys) (n+1) i=Fz (P5 xs ys) n (i+1):=by simp[Fz,P5,hb,-List.getD_eq_getElem?_getD]
   rw[hs]
   simp[Cu,-List.getD_eq_getElem?_getD,-List.map_map,Bny,h0,h1,h5,Bf,c,c',g,w1,hb,hy,gy]
   refine ih _ (by omega) ?_ ?_ ?_<;>rfl
theorem Bqw (H:Hp) (xs:List Bp) (hx:xs.length≤9223372036854775807):ev R 9 [.d (Bf xs), .d (Bf xs)] H=some (.d (.bool true),H):=by
 refine Bh (fn:=f9) rfl rfl ?_
 obtain⟨e',he,h1⟩:=l_9 (Bc H) xs hx xs rfl H xs.length 0 [(0, .d (Bf xs)),(1, .d (Bf xs)),(5, .d (.int .i64 0))] (by omega) rfl rfl rfl
 have hr:Fz (P5 xs xs) xs.length 0=none:=by
  cases hr:Fz (P5 xs xs) xs.length 0 with
  |none=>rfl
  |some j=>
   have:=(T9 hr).2.2.1
   simp[P5] at this
 simp only[hr] at he
 simp[Cu,-List.getD_eq_getElem?_getD,-List.map_map,f9,he]
theorem Brv (xs:List Bp) (hx:xs.length≤9223372036854775807):Be (ev R) 9 [.d (Bf xs), .d (Bf xs)]=some (.d (.bool true)):=Bb fun H=>Bqw H xs hx
theorem Boj (xs:List Sc) (hx:xs.length≤1000000):Be (ev R) 38 [.d (Dr xs), .d (Dr xs)]=some (.d (.bool true)):=Bb fun H=>by
 refine Bh (fn:=f38) rfl rfl ?_
 obtain⟨o,e',X',he,rfl,rfl⟩:=(Dh (F:=Bq (ev R) R.glob (Bc H) Bg Bmb) (lv:=[0,1,5]) xs.length
  (fun i e X=>X=H∧e.get 0= .d (Dr xs)∧e.get 1= .d (Dr xs)∧e.get 5= .d (.int .i64 i))
  (fun o e X=>o= .exit 0∧X=H)
  (by
   rintro e X ⟨rfl,g0,g1,g5⟩
   simp(maxSteps:=1000000) [Cm,-List.getD_eq_getElem?_getD,-List.map_map,Bmb,g0,g1,g5])
  (by
   rintro i e X hi ⟨rfl,g0,g1,g5⟩
   have c: (i:Int)< (xs.length:Int):=by omega
   have c0: (0:Int)≤(i:Int):=by omega
   have g:=Pw xs i hi
   have w1:IntKind.i64.wrap ((i:Int)+1)=((i+1:Nat):Int):=by rw[IntWalk.i64_in _ (by omega)];rfl
   generalize xs.getD i ([],0)=x at*
   obtain⟨t,n⟩:=x
   simp[evA,-List.getD_eq_getElem?_getD,-List.map_map,Bmb,g0,g1,g5,c,c0,g,hi,w1,Jn,Bcc,Ru,Uu])
  xs.length 0 [(0, .d (Dr xs)),(1, .d (Dr xs)),(5, .d (.int .i64 0))] H (by omega) ⟨rfl,rfl,rfl,rfl⟩).out
 simp(maxSteps:=1000000) [Cm,-List.getD_eq_getElem?_getD,-List.map_map,f38,he]
theorem Bok (xs:List Pr) (hx:xs.length≤1000000):Be (ev R) 39 [.d (Fs xs), .d (Fs xs)]=some (.d (.bool true)):=Bb fun H=>by
 refine Bh (fn:=f39) rfl rfl ?_
 obtain⟨o,e',X',he,rfl,rfl⟩:=(Dh (F:=Bq (ev R) R.glob (Bc H) Bg Bmc) (lv:=[0,1,5]) xs.length
  (fun i e X=>X=H∧e.get 0= .d (Fs xs)∧e.get 1= .d (Fs xs)∧e.get 5= .d (.int .i64 i))
  (fun o e X=>o= .exit 0∧X=H)
  (by
   rintro e X ⟨rfl,g0,g1,g5⟩
   simp(maxSteps:=1000000) [Cm,-List.getD_eq_getElem?_getD,-List.map_map,Bmc,g0,g1,g5])
  (by
   rintro i e X hi ⟨rfl,g0,g1,g5⟩
   have c: (i:Int)< (xs.length:Int):=by omega
   have c0: (0:Int)≤(i:Int):=by omega
   have g:=Xc xs i hi
   have w1:IntKind.i64.wrap ((i:Int)+1)=((i+1:Nat):Int):=by rw[IntWalk.i64_in _ (by omega)];rfl
   generalize xs.getD i ([],[])=x at*
   obtain⟨t,n⟩:=x
   simp[evA,-List.getD_eq_getElem?_getD,-List.map_map,Bmc,g0,g1,g5,c,c0,g,hi,w1,Jn,Bcc,Ru,Uu])
  xs.length 0 [(0, .d (Fs xs)),(1, .d (Fs xs)),(5, .d (.int .i64 0))] H (by omega) ⟨rfl,rfl,rfl,rfl⟩).out
 simp(maxSteps:=1000000) [Cm,-List.getD_eq_getElem?_getD,-List.map_map,f39,he]
theorem Bdq (e:En) (h1:e.list.length≤1000000) (h2:e.scores.length≤1000000) (h3:e.fields.length≤1000000):Be (ev R) 17 [.d (F6 e), .d (F6 e)]=some (.d (.bool true)):=Bb fun H=>by
 refine Bh (fn:=f17) rfl rfl ?_
 have p1:=Brv e.list (by omega)
 have p2:=Boj e.scores h2
 have p3:=Bok e.fields h3
 simp[Cn,-List.getD_eq_getElem?_getD,-List.map_map,f17,p1,p2,p3]
theorem Boi (b:Ba) (hl:b.ents.length≤1000000) (h: ∀e∈b.ents,e.list.length≤1000000∧e.scores.length≤1000000∧e.fields.length≤1000000):Be (ev R) 15 [.d (Dx b), .d (Dx b)]=some (.d (.bool true)):=Bb fun H=>by
 refine Bh (fn:=f15) rfl rfl ?_
 obtain⟨o,e',X',he,rfl,ht⟩:=(Dh (F:=Bq (ev R) R.glob (Bc H) Bg Bma) (lv:=[2,3,5]) b.ents.length
  (fun i e X=>X=ap H [.row 0 2 [.d (Dx b)], .row 0 2 [.d (Dx b)]]∧e.get 2= .ptr (Bc H) 0 0 0∧e.get 3= .ptr (Bc H+1) 0 0 0∧e.get 5= .d (.int .i64 i))
  (fun o e X=>o= .exit 0∧Dl X (Bc H)=H)
  (by
   rintro e X ⟨rfl,g2,g3,g5⟩
   simp[Cn,-List.getD_eq_getElem?_getD,-List.map_map,Bma,g2,g3,g5])
  (by
   rintro i e X hi ⟨rfl,g2,g3,g5⟩
   have c: (i:Int)< (b.ents.length:Int):=by omega
   have c0: (0:Int)≤(i:Int):=by omega
   have g:=Jk b.ents i hi
   have w1:IntKind.i64.wrap ((i:Int)+1)=((i+1:Nat):Int):=by rw[IntWalk.i64_in _ (by omega)];rfl
   have hh:=h _ (Gp hi:b.ents.getD i default∈b.ents)
   have p:=Bdq (b.ents.getD i default) hh.1 hh.2.1 hh.2.2
   generalize b.ents.getD i default=x at*
   simp[Cn,-List.getD_eq_getElem?_getD,-List.map_map,Bma,g2,g3,g5,c,c0,g,hi,w1,p])
  b.ents.length 0 [(2, .ptr (Bc H) 0 0 0),(3, .ptr (Bc H+1) 0 0 0),(5, .d (.int .i64 0))] (ap H [.row 0 2 [.d (Dx b)], .row 0 2 [.d (Dx b)]]) (by omega) ⟨rfl,rfl,rfl,rfl⟩).out
 simp[Cn,-List.getD_eq_getElem?_getD,-List.map_map,f15,he,ht]
theorem Z7 {b:Ba} (h:BaSm b):Be (ev R) 15 [.d (Dx b), .d (Dx b)]=some (.d (.bool true)):=
 Boi b h.len fun e he=> ⟨(h.each e he).list,(h.each e he).scores,(h.each e he).fields⟩
theorem Bwe {e:En} (h:EnSm e):Be (ev R) 17 [.d (F6 e), .d (F6 e)]=some (.d (.bool true)):=Bdq e h.list h.scores h.fields
end Go.Proofs.YtjdmiodinhlchaaGreat.Code

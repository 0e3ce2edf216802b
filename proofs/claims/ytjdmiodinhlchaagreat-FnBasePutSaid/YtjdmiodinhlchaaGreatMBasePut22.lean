/- Lemmas (several texts in one). -/
import Derived.Test.YtjdmiodinhlchaaGreatMBasePut7
import Derived.Test.YtjdmiodinhlchaaGreatMBasePut21
set_option maxRecDepth 100000
set_option linter.unusedSimpArgs false
set_option linter.unusedVariables false
set_option maxHeartbeats 2000000
namespace Go.Proofs.YtjdmiodinhlchaaGreat.Code
open Go Go.Ev Go.Proofs
theorem Gl {H:Hp} {r:Nat} {o:Ev.Obj} (h:Ce H r=some o):Bv H r o=H:=by
 induction H generalizing r with
 |nil=>rfl
 |cons a H ih=>
  cases r with
  |zero=>simp only[Ce,Option.some.injEq] at h;subst h;rfl
  |succ r=>exact congrArg (List.cons a) (ih h)
theorem Jo (bs:List Int): ∀ (n:Nat) (p:Int),∀x∈F5 bs n p,x.length≤40
 |0,p=>by simp[F5]
 |n+1,p=>by
  intro x hx
  simp only[F5,List.mem_cons] at hx
  rcases hx with rfl|hx
  ·exact Nn bs p
  ·exact Jo bs n (p+1) x hx
theorem Lu (H:Hp) (r:Nat) (bs:List Int) (q q':Int) (xs:List Bp) {o:Ev.Obj} (h:Ce H r=some o) (hb:Cy bs) (hq:0≤q) (hq2:q≤100000000000) (hq':q'=q+1) (hx:0<xs.length) (hm: ∀x∈xs,x.length≤40):
  ∃t:Bp,t.length≤40∧ev R 29 [.ptr r 0 0 0, .d (Bf xs)] (Bv H r (rd bs q))=some (.d (.str t),Bv H r (rd bs q')):=by
 subst hq'
 have e:=By7 (Bv H r (rd bs q)) r bs q xs (Cw _ (Dy h)) hb hq (by omega) hx
 rw[Lg] at e
 exact⟨_,Wz bs q xs 40 hm,e⟩
theorem Zp (H:Hp) (r:Nat) (bs:List Int) (q q':Int) {o:Ev.Obj} (h:Ce H r=some o) (hb:Cy bs) (hq:0≤q) (hq2:q≤100000000000) (hq':q'=q+1):
  ∃t:Bp,t.length≤40∧ev R 75 [.ptr r 0 0 0] (Bv H r (rd bs q))=some (.d (.str t),Bv H r (rd bs q')):=by
 subst hq'
 have e:=By8 (Bv H r (rd bs q)) r bs q (Cw _ (Dy h)) hb hq (by omega)
 rw[Lg] at e
 exact⟨_,Nn bs q,e⟩
theorem Zn (H:Hp) (r:Nat) (bs:List Int) (q q' n:Int) {o:Ev.Obj} (h:Ce H r=some o) (hb:Cy bs) (hq:0≤q) (hq2:q≤100000000000) (hq':q'=q+1):
  ev R 54 [.ptr r 0 0 0, .d (.int .i64 n)] (Bv H r (rd bs q))=some (.d (.int .i64 (Cr bs q n)),Bv H r (rd bs q')):=by
 subst hq'
 have e:=Bnu (Bv H r (rd bs q)) r bs q n (Cw _ (Dy h)) hb hq (by omega)
 rwa[Lg] at e
theorem Zo (H:Hp) (r:Nat) (bs:List Int) (q q':Int) {o:Ev.Obj} (h:Ce H r=some o) (hb:Cy bs) (hq:0≤q) (hq2:q≤100000000000) (hq':q'=q+1):
  ∃t:Bp,t.length≤40∧ev R 69 [.ptr r 0 0 0] (Bv H r (rd bs q))=some (.d (.str t),Bv H r (rd bs q')):=by
 obtain⟨t,l,e⟩:=Lu H r bs q q' [[107],[108],[115],[122],[104],[107,50],[108]] h hb hq hq2 hq' (by simp) (by simp)
 refine⟨t,l,Bh (fn:=f69) rfl rfl ?_⟩
 have hl:=Gu (Bv H r (rd bs q'))
 rw[Br] at hl
 have hl2:=Br H r (rd bs q)
 simp only[Bf,List.map_cons,List.map_nil] at e
 simp[Cu,-List.getD_eq_getElem?_getD,-List.map_map,f69,e,hl,hl2]
theorem Bn9 (H:Hp) (r:Nat) (bs:List Int) (q q':Int) {o:Ev.Obj} (h:Ce H r=some o) (hb:Cy bs) (hq:0≤q) (hq2:q≤100000000000) (hq':q'=q+1):
  ∃t:Bp,t.length≤40∧ev R 106 [.ptr r 0 0 0] (Bv H r (rd bs q))=some (.d (.str t),Bv H r (rd bs q')):=by
 obtain⟨t,l,e⟩:=Lu H r bs q q' [[48],[49],[45,49],[50],[45,50],[53],[49,48,48],[45,49,48,48],[49,48,48,48,48,48,48,48,48,48],[120]] h hb hq hq2 hq' (by simp) (by simp)
 refine⟨t,l,Bh (fn:=f106) rfl rfl ?_⟩
 have hl:=Gu (Bv H r (rd bs q'))
 rw[Br] at hl
 have hl2:=Br H r (rd bs q)
 simp only[Bf,List.map_cons,List.map_nil] at e
 simp[Cu,-List.getD_eq_getElem?_getD,-List.map_map,f106,e,hl,hl2]
theorem Bzj (H:Hp) (r:Nat) (bs:List Int) (q:Int) (mi:Int) (most:Nat) (hmi:mi=most) (L:List Bp) {o:Ev.Obj} (h:Ce H r=some o) (hb:Cy bs) (hq:0≤q) (hq2:q≤10000000000) (hm:most≤3):
  ∃ (N:Nat) (p9:Int),N≤most∧(q≤p9∧p9≤q+5)∧ev R 101 [.ptr r 0 0 0, .d (.int .i64 mi)] (Bt (Bv H r (rd bs q)) (.row 0 1 ((L.map D.str).map V.d)))=some (.slc (Bc H+1) 0 0 N,Bt (Bt (Bv H r (rd bs p9)) (.row 0 1 ((L.map D.str).map V.d))) (J8 0 (F5 bs N (q+1)))):=by
 subst hmi
 have hr:=Dy h
 have hg:Ce (Bt (Bv H r (rd bs q)) (.row 0 1 ((L.map D.str).map V.d))) r=some (rd bs q):=by
  rw[Fg _ (by rw[Br];exact hr),Cw _ hr]
 have e:=Bxy _ r bs q most hg hb hq (by omega) (by omega)
 obtain⟨k0,k1⟩:=Gd bs q ((most:Int)+1) hb hq (by omega)
 have k1:=k1 (by omega)
 obtain⟨N,hN⟩: ∃N,(Cr bs q ((most:Int)+1)).toNat=N:=⟨_,rfl⟩
 rw[hN,Cg,Br,Nf (by rw[Br];exact hr),Lg] at e
 exact⟨N,q+1+N,by omega,by omega,e⟩
theorem Bef (H X:Hp) (hl:Bc X=Bc H) (ds ts:List Bp) (N:Nat) (hN:ts.length=N):
  Di (Bt (Bt X (.row 0 1 ((ds.map D.str).map V.d))) (J8 0 ts)) (Bc H) 0=some (1,(ds.map D.str).map V.d)∧
  Rm (Bt (Bt X (.row 0 1 ((ds.map D.str).map V.d))) (J8 0 ts)) (.slc (Bc H+1) 0 0 N)=some (1,(ts.map D.str).map V.d,false)∧
  Bv (Bt (Bt X (.row 0 1 ((ds.map D.str).map V.d))) (J8 0 ts)) (Bc H) (.row 1 1 ((ds.map D.str).map V.d++(ts.map D.str).map V.d))=Bt (Bt X (.row 1 1 ((ds.map D.str).map V.d++(ts.map D.str).map V.d))) (J8 0 ts)∧
  Y0 (Bc H) (Bt (Bt X (.row 1 1 ((ds.map D.str).map V.d++(ts.map D.str).map V.d))) (J8 0 ts)) (.slc (Bc H) 1 0 (ds.length+N))=some (.d (.vals 1 (ds.map D.str++ts.map D.str)))∧
  Dl (Bt (Bt X (.row 1 1 ((ds.map D.str).map V.d++(ts.map D.str).map V.d))) (J8 0 ts)) (Bc H)=X∧
  ((ts.map D.str).map V.d).all (Rf (Bc H) (Bc H))=true:=by
 subst hN
 rw[←hl]
 refine⟨?_, ?_, ?_, ?_, ?_, ?_⟩
 ·simp only[Di,Fg _ (show Bc X<Bc (Bt X (.row 0 1 ((ds.map D.str).map V.d))) by rw[Cg];omega),Fa]
  rfl
 ·have hr:Di (Bt (Bt X (.row 0 1 ((ds.map D.str).map V.d))) (J8 0 ts)) (Bc X+1) 0=some (1,(ts.map D.str).map V.d):=Bb8 (by rw[Cg])
  simp only[Rm,hr]
  rw[if_pos (by simp),List.drop_zero,List.take_of_length_le (by simp)]
 ·rw[Nf (by rw[Cg];omega),Qj]
 ·have hr:Di (Bt (Bt X (.row 1 1 ((ds.map D.str).map V.d++(ts.map D.str).map V.d))) (J8 0 ts)) (Bc X) 1=some (1,(ds.map D.str).map V.d++(ts.map D.str).map V.d):=by
   simp only[Di,Fg _ (show Bc X<Bc (Bt X (.row 1 1 ((ds.map D.str).map V.d++(ts.map D.str).map V.d))) by rw[Cg];omega),Fa]
   rfl
  have h:=Yb (n:=Bc X) (d:=7) (i:=0) (k:=ds.length+ts.length) (by omega) hr (by simp) (ys:=ds.map D.str++ts.map D.str) (by
   rw[List.drop_zero,List.take_of_length_le (by simp),←List.map_append];exact Bbj _)
  show(if Bc X<Bc X then _ else(match fz (Bc X) Qw _ (.slc (Bc X) 1 0 (ds.length+ts.length)) with|some x=>some (V.d x) |none=>none))=_
  rw[if_neg (by omega),show Qw=7+1 from rfl,h]
 ·simp[Dl,Bt,Bc]
 ·simp[Rf,Kg]
theorem Nh (H X:Hp) (hl:Bc X=Bc H) (ds:List Bp):
  Di (Bt X (.row 0 1 ((ds.map D.str).map V.d))) (Bc H) 0=some (1,(ds.map D.str).map V.d)∧Dl (Bt X (.row 0 1 ((ds.map D.str).map V.d))) (Bc H)=X∧True:=by
 rw[←hl]
 exact⟨Dj _ _ _ _,Fp _ _,trivial⟩
theorem Ym (H X:Hp) (hl:Bc X=Bc H) (g:Nat) (ys:List V) (o:Ev.Obj):Di (Bt (Bt X (.row g 1 ys)) o) (Bc H) g=some (1,ys):=by
 rw[←hl]
 simp only[Di,Fg _ (show Bc X<Bc (Bt X (.row g 1 ys)) by rw[Cg];omega),Fa]
 simp
def Xv (H:Hp) (r:Nat) (bs:List Int) (p:Int):Prop:=
 ∃ (ts:List Bp) (p':Int),ev R 81 [.ptr r 0 0 0] H=some (.slc (Bc H) 0 0 ts.length,Bt (Bv H r (rd bs p')) (J8 0 ts))∧p≤p'∧p'≤p+20∧1≤ts.length∧ts.length≤8∧∀x∈ts,x.length≤40
theorem B82 (H:Hp) (r:Nat) (bs:List Int) (p:Int) (h:Ce H r=some (rd bs p)) (hb:Cy bs) (hp:0≤p) (hp2:p≤1000000000) (hc:Cr bs (p+2) 12=0):Xv H r bs p:=by
 obtain⟨p1,hp1⟩: ∃q,q=p+1:=⟨_,rfl⟩
 obtain⟨p2,hp2'⟩: ∃q,q=p1+1:=⟨_,rfl⟩
 obtain⟨p3,hp3⟩: ∃q,q=p2+1:=⟨_,rfl⟩
 obtain⟨kk,lk,qk⟩:=Zo H r bs p p1 h hb (by omega) (by omega) hp1
 rw[Gl h] at qk
 obtain⟨tt,lt,qt⟩:=Zp H r bs p1 p2 h hb (by omega) (by omega) hp2'
 have qp:=Zn H r bs p2 p3 12 h hb (by omega) (by omega) hp3
 rw[show p2=p+2 by omega] at qp
 rw[hc] at qp
 rw[show p+2=p2 by omega] at qp
 obtain⟨p4,hp4⟩: ∃q,q=p3+1:=⟨_,rfl⟩
 obtain⟨t1,l1,q1⟩:=Lu H r bs p3 p4 [[71,69,84],[83,84,82,76,69,78],[73,78,67,82],[76,80,79,80],[82,80,79,80],[76,76,69,78],[83,77,69,77,66,69,82,83],[83,67,65,82,68],[90,67,65,82,68],[72,71,69,84,65,76,76],[72,76,69,78],[84,89,80,69],[84,84,76],[80,69,82,83,73,83,84]] h hb (by omega) (by omega) hp4 (by simp) (by simp[*])
 simp only[Bf,List.map_cons,List.map_nil] at q1
 refine⟨[t1,kk],p4, ?_,by omega,by omega,by simp,by simp,by simp[*]⟩
 obtain⟨o1,o2,o3⟩:=Nh H (Bv H r (rd bs p4)) (Br _ _ _) [t1,kk]
 refine Bh (fn:=f81) rfl rfl ?_
 have hl:=Br H r (rd bs p4)
 simp only[J8,List.map_cons,List.map_nil,List.length_cons,List.length_nil,Nat.zero_add,Nat.reduceAdd] at o1 o2⊢
 simp[Cu,-List.getD_eq_getElem?_getD,-List.map_map,f81,qk,qt,qp,q1,hl,o1,o2,Ug]
theorem B83 (H:Hp) (r:Nat) (bs:List Int) (p:Int) (h:Ce H r=some (rd bs p)) (hb:Cy bs) (hp:0≤p) (hp2:p≤1000000000) (hc:Cr bs (p+2) 12=1):Xv H r bs p:=by
 obtain⟨p1,hp1⟩: ∃q,q=p+1:=⟨_,rfl⟩
 obtain⟨p2,hp2'⟩: ∃q,q=p1+1:=⟨_,rfl⟩
 obtain⟨p3,hp3⟩: ∃q,q=p2+1:=⟨_,rfl⟩
 obtain⟨kk,lk,qk⟩:=Zo H r bs p p1 h hb (by omega) (by omega) hp1
 rw[Gl h] at qk
 obtain⟨tt,lt,qt⟩:=Zp H r bs p1 p2 h hb (by omega) (by omega) hp2'
 have qp:=Zn H r bs p2 p3 12 h hb (by omega) (by omega) hp3
 rw[show p2=p+2 by omega] at qp
 rw[hc] at qp
 rw[show p+2=p2 by omega] at qp
 obtain⟨p4,hp4⟩: ∃q,q=p3+1:=⟨_,rfl⟩
 obtain⟨t1,l1,q1⟩:=Lu H r bs p3 p4 [[107],[107,50]] h hb (by omega) (by omega) hp4 (by simp) (by simp[*])
 simp only[Bf,List.map_cons,List.map_nil] at q1
 refine⟨[[83,69,84],t1,tt],p4, ?_,by omega,by omega,by simp,by simp,by simp[*]⟩
 obtain⟨o1,o2,o3⟩:=Nh H (Bv H r (rd bs p4)) (Br _ _ _) [[83,69,84],t1,tt]
 refine Bh (fn:=f81) rfl rfl ?_
 have hl:=Br H r (rd bs p4)
 simp only[J8,List.map_cons,List.map_nil,List.length_cons,List.length_nil,Nat.zero_add,Nat.reduceAdd] at o1 o2⊢
 simp[Cu,-List.getD_eq_getElem?_getD,-List.map_map,f81,qk,qt,qp,q1,hl,o1,o2,Ug]
theorem B84 (H:Hp) (r:Nat) (bs:List Int) (p:Int) (h:Ce H r=some (rd bs p)) (hb:Cy bs) (hp:0≤p) (hp2:p≤1000000000) (hc:Cr bs (p+2) 12=2):Xv H r bs p:=by
 obtain⟨p1,hp1⟩: ∃q,q=p+1:=⟨_,rfl⟩
 obtain⟨p2,hp2'⟩: ∃q,q=p1+1:=⟨_,rfl⟩
 obtain⟨p3,hp3⟩: ∃q,q=p2+1:=⟨_,rfl⟩
 obtain⟨kk,lk,qk⟩:=Zo H r bs p p1 h hb (by omega) (by omega) hp1
 rw[Gl h] at qk
 obtain⟨tt,lt,qt⟩:=Zp H r bs p1 p2 h hb (by omega) (by omega) hp2'
 have qp:=Zn H r bs p2 p3 12 h hb (by omega) (by omega) hp3
 rw[show p2=p+2 by omega] at qp
 rw[hc] at qp
 rw[show p+2=p2 by omega] at qp
 obtain⟨p4,hp4⟩: ∃q,q=p3+1:=⟨_,rfl⟩
 obtain⟨t1,l1,q1⟩:=Lu H r bs p3 p4 [[65,80,80,69,78,68],[73,78,67,82,66,89]] h hb (by omega) (by omega) hp4 (by simp) (by simp[*])
 simp only[Bf,List.map_cons,List.map_nil] at q1
 obtain⟨p5,hp5⟩: ∃q,q=p4+1:=⟨_,rfl⟩
 obtain⟨t2,l2,q2⟩:=Lu H r bs p4 p5 [[107],[107,50]] h hb (by omega) (by omega) hp5 (by simp) (by simp[*])
 simp only[Bf,List.map_cons,List.map_nil] at q2
 obtain⟨p6,hp6⟩: ∃q,q=p5+1:=⟨_,rfl⟩
 obtain⟨t3,l3,q3⟩:=Bn9 H r bs p5 p6 h hb (by omega) (by omega) hp6
 obtain⟨p7,hp7⟩: ∃q,q=p6+1:=⟨_,rfl⟩
 obtain⟨t4,l4,q4⟩:=Lu H r bs p6 p7 [tt,t3] h hb (by omega) (by omega) hp7 (by simp) (by simp[*])
 simp only[Bf,List.map_cons,List.map_nil] at q4
 refine⟨[t1,t2,t4],p7, ?_,by omega,by omega,by simp,by simp,by simp[*]⟩
 obtain⟨o1,o2,o3⟩:=Nh H (Bv H r (rd bs p7)) (Br _ _ _) [t1,t2,t4]
 refine Bh (fn:=f81) rfl rfl ?_
 have hl:=Br H r (rd bs p7)
 simp only[J8,List.map_cons,List.map_nil,List.length_cons,List.length_nil,Nat.zero_add,Nat.reduceAdd] at o1 o2⊢
 simp[Cu,-List.getD_eq_getElem?_getD,-List.map_map,f81,qk,qt,qp,q1,q2,q3,q4,hl,o1,o2,Ug]
theorem B85 (H:Hp) (r:Nat) (bs:List Int) (p:Int) (h:Ce H r=some (rd bs p)) (hb:Cy bs) (hp:0≤p) (hp2:p≤1000000000) (hc:Cr bs (p+2) 12=3):Xv H r bs p:=by
 obtain⟨p1,hp1⟩: ∃q,q=p+1:=⟨_,rfl⟩
 obtain⟨p2,hp2'⟩: ∃q,q=p1+1:=⟨_,rfl⟩
 obtain⟨p3,hp3⟩: ∃q,q=p2+1:=⟨_,rfl⟩
 obtain⟨kk,lk,qk⟩:=Zo H r bs p p1 h hb (by omega) (by omega) hp1
 rw[Gl h] at qk
 obtain⟨tt,lt,qt⟩:=Zp H r bs p1 p2 h hb (by omega) (by omega) hp2'
 have qp:=Zn H r bs p2 p3 12 h hb (by omega) (by omega) hp3
 rw[show p2=p+2 by omega] at qp
 rw[hc] at qp
 rw[show p+2=p2 by omega] at qp
 obtain⟨p4,hp4⟩: ∃q,q=p3+1:=⟨_,rfl⟩
 obtain⟨t1,l1,q1⟩:=Lu H r bs p3 p4 [[76,80,85,83,72],[82,80,85,83,72]] h hb (by omega) (by omega) hp4 (by simp) (by simp[*])
 simp only[Bf,List.map_cons,List.map_nil] at q1
 obtain⟨p5,hp5⟩: ∃q,q=p4+1:=⟨_,rfl⟩
 obtain⟨t2,l2,q2⟩:=Lu H r bs p4 p5 [[108],[108],[107]] h hb (by omega) (by omega) hp5 (by simp) (by simp[*])
 simp only[Bf,List.map_cons,List.map_nil] at q2
 obtain⟨N,p9,nl,pl,q9⟩:=Bzj H r bs p5 3 3 rfl ([t1,t2,tt]:List Bp) h hb (by omega) (by omega) (by omega)
 obtain⟨a1,a2,a3,a4,a5,a6⟩:=Bef H (Bv H r (rd bs p9)) (Br _ _ _) [t1,t2,tt] (F5 bs N (p5+1)) N (K3 bs N (p5+1))
 have tl:=K3 bs N (p5+1)
 refine⟨[t1,t2,tt]++F5 bs N (p5+1),p9, ?_,by omega,by omega,by simp,by simp[tl];omega,fun x hx=> ?_⟩
 ·refine Bh (fn:=f81) rfl rfl ?_
  have sh:=Jo bs N (p5+1)
  clear sh
  generalize F5 bs N (p5+1)=ts at a1 a2 a3 a4 a5 a6 q9 tl⊢
  simp only[List.map_cons,List.map_nil,List.cons_append,List.nil_append,List.length_cons,List.length_nil,Bf,Nat.zero_add,Nat.reduceAdd] at a1 a2 a3 a4 a5 a6 q9⊢
  have rm: (N+3)*16≤Cv:=by unfold Cv;omega
  have rm2: (3+N)*16≤Cv:=by unfold Cv;omega
  have hl:=Br H r (rd bs p5)
  have aD:=Bac (ts.map D.str)
  have r1: ∀ys:List V,Di (Bt (Bt (Bv H r (rd bs p9)) (.row 1 1 ys)) (J8 0 ts)) (Bc H) 1=some (1,ys):=fun ys=>Ym H (Bv H r (rd bs p9)) (Br _ _ _) 1 ys (J8 0 ts)
  have hl9:=Br H r (rd bs p9)
  show _=some (V.slc (Bc H) 0 0 _,Bt (Bv H r (rd bs p9)) (.row 0 1 _))
  simp only[List.length_cons,List.length_nil,List.length_append,tl,Nat.zero_add,Nat.reduceAdd,List.map_cons,List.map_nil,List.cons_append,List.nil_append]
  simp[Cu,-List.getD_eq_getElem?_getD,-List.map_map,f81,qk,qt,qp,q1,q2,hl,hl9,q9,a1,a2,a3,a5,a6,rm,rm2,tl,aD,r1,Ug]
  omega
 ·rcases List.mem_append.1 hx with hx|hx
  ·simp only[List.mem_cons,List.not_mem_nil,or_false] at hx
   rcases hx with rfl|rfl|rfl<;>assumption
  ·exact Jo bs N (p5+1) x hx
theorem B86 (H:Hp) (r:Nat) (bs:List Int) (p:Int) (h:Ce H r=some (rd bs p)) (hb:Cy bs) (hp:0≤p) (hp2:p≤1000000000) (hc:Cr bs (p+2) 12=4):Xv H r bs p:=by
 obtain⟨p1,hp1⟩: ∃q,q=p+1:=⟨_,rfl⟩
 obtain⟨p2,hp2'⟩: ∃q,q=p1+1:=⟨_,rfl⟩
 obtain⟨p3,hp3⟩: ∃q,q=p2+1:=⟨_,rfl⟩
 obtain⟨kk,lk,qk⟩:=Zo H r bs p p1 h hb (by omega) (by omega) hp1
 rw[Gl h] at qk
 obtain⟨tt,lt,qt⟩:=Zp H r bs p1 p2 h hb (by omega) (by omega) hp2'
 have qp:=Zn H r bs p2 p3 12 h hb (by omega) (by omega) hp3
 rw[show p2=p+2 by omega] at qp
 rw[hc] at qp
 rw[show p+2=p2 by omega] at qp
 obtain⟨p4,hp4⟩: ∃q,q=p3+1:=⟨_,rfl⟩
 obtain⟨t1,l1,q1⟩:=Lu H r bs p3 p4 [[76,82,65,78,71,69],[76,84,82,73,77],[76,83,69,84],[76,82,69,77],[71,69,84,82,65,78,71,69]] h hb (by omega) (by omega) hp4 (by simp) (by simp[*])
 simp only[Bf,List.map_cons,List.map_nil] at q1
 obtain⟨p5,hp5⟩: ∃q,q=p4+1:=⟨_,rfl⟩
 obtain⟨t2,l2,q2⟩:=Lu H r bs p4 p5 [[108],[108],[107]] h hb (by omega) (by omega) hp5 (by simp) (by simp[*])
 simp only[Bf,List.map_cons,List.map_nil] at q2
 obtain⟨p6,hp6⟩: ∃q,q=p5+1:=⟨_,rfl⟩
 obtain⟨t3,l3,q3⟩:=Bn9 H r bs p5 p6 h hb (by omega) (by omega) hp6
 obtain⟨p7,hp7⟩: ∃q,q=p6+1:=⟨_,rfl⟩
 obtain⟨t4,l4,q4⟩:=Bn9 H r bs p6 p7 h hb (by omega) (by omega) hp7
 obtain⟨p8,hp8⟩: ∃q,q=p7+1:=⟨_,rfl⟩
 obtain⟨t5,l5,q5⟩:=Lu H r bs p7 p8 [t4,tt] h hb (by omega) (by omega) hp8 (by simp) (by simp[*])
 simp only[Bf,List.map_cons,List.map_nil] at q5
 refine⟨[t1,t2,t3,t5],p8, ?_,by omega,by omega,by simp,by simp,by simp[*]⟩
 obtain⟨o1,o2,o3⟩:=Nh H (Bv H r (rd bs p8)) (Br _ _ _) [t1,t2,t3,t5]
 refine Bh (fn:=f81) rfl rfl ?_
 have hl:=Br H r (rd bs p8)
 simp only[J8,List.map_cons,List.map_nil,List.length_cons,List.length_nil,Nat.zero_add,Nat.reduceAdd] at o1 o2⊢
 simp[Cu,-List.getD_eq_getElem?_getD,-List.map_map,f81,qk,qt,qp,q1,q2,q3,q4,q5,hl,o1,o2,Ug]
theorem B87 (H:Hp) (r:Nat) (bs:List Int) (p:Int) (h:Ce H r=some (rd bs p)) (hb:Cy bs) (hp:0≤p) (hp2:p≤1000000000) (hc:Cr bs (p+2) 12=5):Xv H r bs p:=by
 obtain⟨p1,hp1⟩: ∃q,q=p+1:=⟨_,rfl⟩
 obtain⟨p2,hp2'⟩: ∃q,q=p1+1:=⟨_,rfl⟩
 obtain⟨p3,hp3⟩: ∃q,q=p2+1:=⟨_,rfl⟩
 obtain⟨kk,lk,qk⟩:=Zo H r bs p p1 h hb (by omega) (by omega) hp1
 rw[Gl h] at qk
 obtain⟨tt,lt,qt⟩:=Zp H r bs p1 p2 h hb (by omega) (by omega) hp2'
 have qp:=Zn H r bs p2 p3 12 h hb (by omega) (by omega) hp3
 rw[show p2=p+2 by omega] at qp
 rw[hc] at qp
 rw[show p+2=p2 by omega] at qp
 obtain⟨p4,hp4⟩: ∃q,q=p3+1:=⟨_,rfl⟩
 obtain⟨t1,l1,q1⟩:=Lu H r bs p3 p4 [[83,65,68,68],[83,65,68,68],[83,82,69,77]] h hb (by omega) (by omega) hp4 (by simp) (by simp[*])
 simp only[Bf,List.map_cons,List.map_nil] at q1
 obtain⟨p5,hp5⟩: ∃q,q=p4+1:=⟨_,rfl⟩
 obtain⟨t2,l2,q2⟩:=Lu H r bs p4 p5 [[115],[115,50]] h hb (by omega) (by omega) hp5 (by simp) (by simp[*])
 simp only[Bf,List.map_cons,List.map_nil] at q2
 obtain⟨N,p9,nl,pl,q9⟩:=Bzj H r bs p5 2 2 rfl ([t1,t2,tt]:List Bp) h hb (by omega) (by omega) (by omega)
 obtain⟨a1,a2,a3,a4,a5,a6⟩:=Bef H (Bv H r (rd bs p9)) (Br _ _ _) [t1,t2,tt] (F5 bs N (p5+1)) N (K3 bs N (p5+1))
 have tl:=K3 bs N (p5+1)
 refine⟨[t1,t2,tt]++F5 bs N (p5+1),p9, ?_,by omega,by omega,by simp,by simp[tl];omega,fun x hx=> ?_⟩
 ·refine Bh (fn:=f81) rfl rfl ?_
  have sh:=Jo bs N (p5+1)
  clear sh
  generalize F5 bs N (p5+1)=ts at a1 a2 a3 a4 a5 a6 q9 tl⊢
  simp only[List.map_cons,List.map_nil,List.cons_append,List.nil_append,List.length_cons,List.length_nil,Bf,Nat.zero_add,Nat.reduceAdd] at a1 a2 a3 a4 a5 a6 q9⊢
  have rm: (N+3)*16≤Cv:=by unfold Cv;omega
  have rm2: (3+N)*16≤Cv:=by unfold Cv;omega
  have hl:=Br H r (rd bs p5)
  have aD:=Bac (ts.map D.str)
  have r1: ∀ys:List V,Di (Bt (Bt (Bv H r (rd bs p9)) (.row 1 1 ys)) (J8 0 ts)) (Bc H) 1=some (1,ys):=fun ys=>Ym H (Bv H r (rd bs p9)) (Br _ _ _) 1 ys (J8 0 ts)
  have hl9:=Br H r (rd bs p9)
  show _=some (V.slc (Bc H) 0 0 _,Bt (Bv H r (rd bs p9)) (.row 0 1 _))
  simp only[List.length_cons,List.length_nil,List.length_append,tl,Nat.zero_add,Nat.reduceAdd,List.map_cons,List.map_nil,List.cons_append,List.nil_append]
  simp[Cu,-List.getD_eq_getElem?_getD,-List.map_map,f81,qk,qt,qp,q1,q2,hl,hl9,q9,a1,a2,a3,a5,a6,rm,rm2,tl,aD,r1,Ug]
  omega
 ·rcases List.mem_append.1 hx with hx|hx
  ·simp only[List.mem_cons,List.not_mem_nil,or_false] at hx
   rcases hx with rfl|rfl|rfl<;>assumption
  ·exact Jo bs N (p5+1) x hx
theorem B88 (H:Hp) (r:Nat) (bs:List Int) (p:Int) (h:Ce H r=some (rd bs p)) (hb:Cy bs) (hp:0≤p) (hp2:p≤1000000000) (hc:Cr bs (p+2) 12=6):Xv H r bs p:=by
 obtain⟨p1,hp1⟩: ∃q,q=p+1:=⟨_,rfl⟩
 obtain⟨p2,hp2'⟩: ∃q,q=p1+1:=⟨_,rfl⟩
 obtain⟨p3,hp3⟩: ∃q,q=p2+1:=⟨_,rfl⟩
 obtain⟨kk,lk,qk⟩:=Zo H r bs p p1 h hb (by omega) (by omega) hp1
 rw[Gl h] at qk
 obtain⟨tt,lt,qt⟩:=Zp H r bs p1 p2 h hb (by omega) (by omega) hp2'
 have qp:=Zn H r bs p2 p3 12 h hb (by omega) (by omega) hp3
 rw[show p2=p+2 by omega] at qp
 rw[hc] at qp
 rw[show p+2=p2 by omega] at qp
 obtain⟨p4,hp4⟩: ∃q,q=p3+1:=⟨_,rfl⟩
 obtain⟨t1,l1,q1⟩:=Lu H r bs p3 p4 [[83,73,83,77,69,77,66,69,82],[83,73,78,84,69,82],[83,85,78,73,79,78],[83,68,73,70,70]] h hb (by omega) (by omega) hp4 (by simp) (by simp[*])
 simp only[Bf,List.map_cons,List.map_nil] at q1
 obtain⟨p5,hp5⟩: ∃q,q=p4+1:=⟨_,rfl⟩
 obtain⟨t2,l2,q2⟩:=Lu H r bs p4 p5 [[115],[115,50]] h hb (by omega) (by omega) hp5 (by simp) (by simp[*])
 simp only[Bf,List.map_cons,List.map_nil] at q2
 obtain⟨p6,hp6⟩: ∃q,q=p5+1:=⟨_,rfl⟩
 obtain⟨t3,l3,q3⟩:=Lu H r bs p5 p6 [[115],[115,50],tt] h hb (by omega) (by omega) hp6 (by simp) (by simp[*])
 simp only[Bf,List.map_cons,List.map_nil] at q3
 refine⟨[t1,t2,t3],p6, ?_,by omega,by omega,by simp,by simp,by simp[*]⟩
 obtain⟨o1,o2,o3⟩:=Nh H (Bv H r (rd bs p6)) (Br _ _ _) [t1,t2,t3]
 refine Bh (fn:=f81) rfl rfl ?_
 have hl:=Br H r (rd bs p6)
 simp only[J8,List.map_cons,List.map_nil,List.length_cons,List.length_nil,Nat.zero_add,Nat.reduceAdd] at o1 o2⊢
 simp[Cu,-List.getD_eq_getElem?_getD,-List.map_map,f81,qk,qt,qp,q1,q2,q3,hl,o1,o2,Ug]
theorem B89 (H:Hp) (r:Nat) (bs:List Int) (p:Int) (h:Ce H r=some (rd bs p)) (hb:Cy bs) (hp:0≤p) (hp2:p≤1000000000) (hc:Cr bs (p+2) 12=7):Xv H r bs p:=by
 obtain⟨p1,hp1⟩: ∃q,q=p+1:=⟨_,rfl⟩
 obtain⟨p2,hp2'⟩: ∃q,q=p1+1:=⟨_,rfl⟩
 obtain⟨p3,hp3⟩: ∃q,q=p2+1:=⟨_,rfl⟩
 obtain⟨kk,lk,qk⟩:=Zo H r bs p p1 h hb (by omega) (by omega) hp1
 rw[Gl h] at qk
 obtain⟨tt,lt,qt⟩:=Zp H r bs p1 p2 h hb (by omega) (by omega) hp2'
 have qp:=Zn H r bs p2 p3 12 h hb (by omega) (by omega) hp3
 rw[show p2=p+2 by omega] at qp
 rw[hc] at qp
 rw[show p+2=p2 by omega] at qp
 obtain⟨p4,hp4⟩: ∃q,q=p3+1:=⟨_,rfl⟩
 obtain⟨t1,l1,q1⟩:=Lu H r bs p3 p4 [[90,65,68,68],[90,65,68,68],[90,73,78,67,82,66,89],[90,82,65,78,71,69],[90,82,65,78,71,69,66,89,83,67,79,82,69]] h hb (by omega) (by omega) hp4 (by simp) (by simp[*])
 simp only[Bf,List.map_cons,List.map_nil] at q1
 obtain⟨p5,hp5⟩: ∃q,q=p4+1:=⟨_,rfl⟩
 obtain⟨t2,l2,q2⟩:=Bn9 H r bs p4 p5 h hb (by omega) (by omega) hp5
 obtain⟨p6,hp6⟩: ∃q,q=p5+1:=⟨_,rfl⟩
 obtain⟨t3,l3,q3⟩:=Bn9 H r bs p5 p6 h hb (by omega) (by omega) hp6
 obtain⟨p7,hp7⟩: ∃q,q=p6+1:=⟨_,rfl⟩
 obtain⟨t4,l4,q4⟩:=Lu H r bs p6 p7 [tt,t3] h hb (by omega) (by omega) hp7 (by simp) (by simp[*])
 simp only[Bf,List.map_cons,List.map_nil] at q4
 refine⟨[t1,[122],t2,t4],p7, ?_,by omega,by omega,by simp,by simp,by simp[*]⟩
 obtain⟨o1,o2,o3⟩:=Nh H (Bv H r (rd bs p7)) (Br _ _ _) [t1,[122],t2,t4]
 refine Bh (fn:=f81) rfl rfl ?_
 have hl:=Br H r (rd bs p7)
 simp only[J8,List.map_cons,List.map_nil,List.length_cons,List.length_nil,Nat.zero_add,Nat.reduceAdd] at o1 o2⊢
 simp[Cu,-List.getD_eq_getElem?_getD,-List.map_map,f81,qk,qt,qp,q1,q2,q3,q4,hl,o1,o2,Ug]
theorem B9a (H:Hp) (r:Nat) (bs:List Int) (p:Int) (h:Ce H r=some (rd bs p)) (hb:Cy bs) (hp:0≤p) (hp2:p≤1000000000) (hc:Cr bs (p+2) 12=8):Xv H r bs p:=by
 obtain⟨p1,hp1⟩: ∃q,q=p+1:=⟨_,rfl⟩
 obtain⟨p2,hp2'⟩: ∃q,q=p1+1:=⟨_,rfl⟩
 obtain⟨p3,hp3⟩: ∃q,q=p2+1:=⟨_,rfl⟩
 obtain⟨kk,lk,qk⟩:=Zo H r bs p p1 h hb (by omega) (by omega) hp1
 rw[Gl h] at qk
 obtain⟨tt,lt,qt⟩:=Zp H r bs p1 p2 h hb (by omega) (by omega) hp2'
 have qp:=Zn H r bs p2 p3 12 h hb (by omega) (by omega) hp3
 rw[show p2=p+2 by omega] at qp
 rw[hc] at qp
 rw[show p+2=p2 by omega] at qp
 obtain⟨p4,hp4⟩: ∃q,q=p3+1:=⟨_,rfl⟩
 obtain⟨t1,l1,q1⟩:=Lu H r bs p3 p4 [[90,82,69,77],[90,83,67,79,82,69],[90,82,65,78,75],[72,71,69,84],[72,68,69,76]] h hb (by omega) (by omega) hp4 (by simp) (by simp[*])
 simp only[Bf,List.map_cons,List.map_nil] at q1
 obtain⟨p5,hp5⟩: ∃q,q=p4+1:=⟨_,rfl⟩
 obtain⟨t2,l2,q2⟩:=Lu H r bs p4 p5 [[122],[104]] h hb (by omega) (by omega) hp5 (by simp) (by simp[*])
 simp only[Bf,List.map_cons,List.map_nil] at q2
 refine⟨[t1,t2,tt],p5, ?_,by omega,by omega,by simp,by simp,by simp[*]⟩
 obtain⟨o1,o2,o3⟩:=Nh H (Bv H r (rd bs p5)) (Br _ _ _) [t1,t2,tt]
 refine Bh (fn:=f81) rfl rfl ?_
 have hl:=Br H r (rd bs p5)
 simp only[J8,List.map_cons,List.map_nil,List.length_cons,List.length_nil,Nat.zero_add,Nat.reduceAdd] at o1 o2⊢
 simp[Cu,-List.getD_eq_getElem?_getD,-List.map_map,f81,qk,qt,qp,q1,q2,hl,o1,o2,Ug]
theorem B9b (H:Hp) (r:Nat) (bs:List Int) (p:Int) (h:Ce H r=some (rd bs p)) (hb:Cy bs) (hp:0≤p) (hp2:p≤1000000000) (hc:Cr bs (p+2) 12=9):Xv H r bs p:=by
 obtain⟨p1,hp1⟩: ∃q,q=p+1:=⟨_,rfl⟩
 obtain⟨p2,hp2'⟩: ∃q,q=p1+1:=⟨_,rfl⟩
 obtain⟨p3,hp3⟩: ∃q,q=p2+1:=⟨_,rfl⟩
 obtain⟨kk,lk,qk⟩:=Zo H r bs p p1 h hb (by omega) (by omega) hp1
 rw[Gl h] at qk
 obtain⟨tt,lt,qt⟩:=Zp H r bs p1 p2 h hb (by omega) (by omega) hp2'
 have qp:=Zn H r bs p2 p3 12 h hb (by omega) (by omega) hp3
 rw[show p2=p+2 by omega] at qp
 rw[hc] at qp
 rw[show p+2=p2 by omega] at qp
 obtain⟨p4,hp4⟩: ∃q,q=p3+1:=⟨_,rfl⟩
 obtain⟨t1,l1,q1⟩:=Lu H r bs p3 p4 [[72,83,69,84],[72,83,69,84],[72,73,78,67,82,66,89]] h hb (by omega) (by omega) hp4 (by simp) (by simp[*])
 simp only[Bf,List.map_cons,List.map_nil] at q1
 obtain⟨p5,hp5⟩: ∃q,q=p4+1:=⟨_,rfl⟩
 obtain⟨t2,l2,q2⟩:=Lu H r bs p4 p5 [[97],[98],tt] h hb (by omega) (by omega) hp5 (by simp) (by simp[*])
 simp only[Bf,List.map_cons,List.map_nil] at q2
 obtain⟨p6,hp6⟩: ∃q,q=p5+1:=⟨_,rfl⟩
 obtain⟨t3,l3,q3⟩:=Bn9 H r bs p5 p6 h hb (by omega) (by omega) hp6
 obtain⟨p7,hp7⟩: ∃q,q=p6+1:=⟨_,rfl⟩
 obtain⟨t4,l4,q4⟩:=Lu H r bs p6 p7 [tt,t3] h hb (by omega) (by omega) hp7 (by simp) (by simp[*])
 simp only[Bf,List.map_cons,List.map_nil] at q4
 refine⟨[t1,[104],t2,t4],p7, ?_,by omega,by omega,by simp,by simp,by simp[*]⟩
 obtain⟨o1,o2,o3⟩:=Nh H (Bv H r (rd bs p7)) (Br _ _ _) [t1,[104],t2,t4]
 refine Bh (fn:=f81) rfl rfl ?_
 have hl:=Br H r (rd bs p7)
 simp only[J8,List.map_cons,List.map_nil,List.length_cons,List.length_nil,Nat.zero_add,Nat.reduceAdd] at o1 o2⊢
 simp[Cu,-List.getD_eq_getElem?_getD,-List.map_map,f81,qk,qt,qp,q1,q2,q3,q4,hl,o1,o2,Ug]
theorem B4q (H:Hp) (r:Nat) (bs:List Int) (p:Int) (h:Ce H r=some (rd bs p)) (hb:Cy bs) (hp:0≤p) (hp2:p≤1000000000) (hc:Cr bs (p+2) 12=10):Xv H r bs p:=by
 obtain⟨p1,hp1⟩: ∃q,q=p+1:=⟨_,rfl⟩
 obtain⟨p2,hp2'⟩: ∃q,q=p1+1:=⟨_,rfl⟩
 obtain⟨p3,hp3⟩: ∃q,q=p2+1:=⟨_,rfl⟩
 obtain⟨kk,lk,qk⟩:=Zo H r bs p p1 h hb (by omega) (by omega) hp1
 rw[Gl h] at qk
 obtain⟨tt,lt,qt⟩:=Zp H r bs p1 p2 h hb (by omega) (by omega) hp2'
 have qp:=Zn H r bs p2 p3 12 h hb (by omega) (by omega) hp3
 rw[show p2=p+2 by omega] at qp
 rw[hc] at qp
 rw[show p+2=p2 by omega] at qp
 obtain⟨p4,hp4⟩: ∃q,q=p3+1:=⟨_,rfl⟩
 obtain⟨t1,l1,q1⟩:=Lu H r bs p3 p4 [[69,88,80,73,82,69],[69,88,80,73,82,69,65,84],[82,69,78,65,77,69]] h hb (by omega) (by omega) hp4 (by simp) (by simp[*])
 simp only[Bf,List.map_cons,List.map_nil] at q1
 obtain⟨p5,hp5⟩: ∃q,q=p4+1:=⟨_,rfl⟩
 obtain⟨t2,l2,q2⟩:=Lu H r bs p4 p5 [[53],[49],[49,48,48],[107],[108],[107,50],[45,49],[49,48,48,48,48,48,49]] h hb (by omega) (by omega) hp5 (by simp) (by simp[*])
 simp only[Bf,List.map_cons,List.map_nil] at q2
 refine⟨[t1,kk,t2],p5, ?_,by omega,by omega,by simp,by simp,by simp[*]⟩
 obtain⟨o1,o2,o3⟩:=Nh H (Bv H r (rd bs p5)) (Br _ _ _) [t1,kk,t2]
 refine Bh (fn:=f81) rfl rfl ?_
 have hl:=Br H r (rd bs p5)
 simp only[J8,List.map_cons,List.map_nil,List.length_cons,List.length_nil,Nat.zero_add,Nat.reduceAdd] at o1 o2⊢
 simp[Cu,-List.getD_eq_getElem?_getD,-List.map_map,f81,qk,qt,qp,q1,q2,hl,o1,o2,Ug]
theorem B4r (H:Hp) (r:Nat) (bs:List Int) (p:Int) (h:Ce H r=some (rd bs p)) (hb:Cy bs) (hp:0≤p) (hp2:p≤1000000000) (hc:11≤Cr bs (p+2) 12):Xv H r bs p:=by
 obtain⟨p1,hp1⟩: ∃q,q=p+1:=⟨_,rfl⟩
 obtain⟨p2,hp2'⟩: ∃q,q=p1+1:=⟨_,rfl⟩
 obtain⟨p3,hp3⟩: ∃q,q=p2+1:=⟨_,rfl⟩
 obtain⟨kk,lk,qk⟩:=Zo H r bs p p1 h hb (by omega) (by omega) hp1
 rw[Gl h] at qk
 obtain⟨tt,lt,qt⟩:=Zp H r bs p1 p2 h hb (by omega) (by omega) hp2'
 have qp:=Zn H r bs p2 p3 12 h hb (by omega) (by omega) hp3
 rw[show p2=p+2 by omega] at qp
 obtain⟨_,pm⟩:=Gd bs (p+2) 12 hb (by omega) (by omega)
 have pm:=pm (by omega)
 rw[show Cr bs (p+2) 12=11 by omega] at qp
 rw[show p+2=p2 by omega] at qp
 obtain⟨p4,hp4⟩: ∃q,q=p3+1:=⟨_,rfl⟩
 obtain⟨t1,l1,q1⟩:=Lu H r bs p3 p4 [[68,69,76],[69,88,73,83,84,83],[75,69,89,83],[68,66,83,73,90,69],[70,76,85,83,72],[78,79,78,69],[68,69,76]] h hb (by omega) (by omega) hp4 (by simp) (by simp[*])
 simp only[Bf,List.map_cons,List.map_nil] at q1
 obtain⟨p5,hp5⟩: ∃q,q=p4+1:=⟨_,rfl⟩
 obtain⟨t2,l2,q2⟩:=Lu H r bs p4 p5 [kk,[42],[63],[107,42],[]] h hb (by omega) (by omega) hp5 (by simp) (by simp[*])
 simp only[Bf,List.map_cons,List.map_nil] at q2
 obtain⟨N,p9,nl,pl,q9⟩:=Bzj H r bs p5 1 1 rfl ([t1,t2]:List Bp) h hb (by omega) (by omega) (by omega)
 obtain⟨a1,a2,a3,a4,a5,a6⟩:=Bef H (Bv H r (rd bs p9)) (Br _ _ _) [t1,t2] (F5 bs N (p5+1)) N (K3 bs N (p5+1))
 have tl:=K3 bs N (p5+1)
 refine⟨[t1,t2]++F5 bs N (p5+1),p9, ?_,by omega,by omega,by simp,by simp[tl];omega,fun x hx=> ?_⟩
 ·refine Bh (fn:=f81) rfl rfl ?_
  have sh:=Jo bs N (p5+1)
  clear sh
  generalize F5 bs N (p5+1)=ts at a1 a2 a3 a4 a5 a6 q9 tl⊢
  simp only[List.map_cons,List.map_nil,List.cons_append,List.nil_append,List.length_cons,List.length_nil,Bf,Nat.zero_add,Nat.reduceAdd] at a1 a2 a3 a4 a5 a6 q9⊢
  have rm: (N+2)*16≤Cv:=by unfold Cv;omega
  have rm2: (2+N)*16≤Cv:=by unfold Cv;omega
  have hl:=Br H r (rd bs p5)
  have aD:=Bac (ts.map D.str)
  have r1: ∀ys:List V,Di (Bt (Bt (Bv H r (rd bs p9)) (.row 1 1 ys)) (J8 0 ts)) (Bc H) 1=some (1,ys):=fun ys=>Ym H (Bv H r (rd bs p9)) (Br _ _ _) 1 ys (J8 0 ts)
  have hl9:=Br H r (rd bs p9)
  show _=some (V.slc (Bc H) 0 0 _,Bt (Bv H r (rd bs p9)) (.row 0 1 _))
  simp only[List.length_cons,List.length_nil,List.length_append,tl,Nat.zero_add,Nat.reduceAdd,List.map_cons,List.map_nil,List.cons_append,List.nil_append]
  simp[Cu,-List.getD_eq_getElem?_getD,-List.map_map,f81,qk,qt,qp,q1,q2,hl,hl9,q9,a1,a2,a3,a5,a6,rm,rm2,tl,aD,r1,Ug]
  omega
 ·rcases List.mem_append.1 hx with hx|hx
  ·simp only[List.mem_cons,List.not_mem_nil,or_false] at hx
   rcases hx with rfl|rfl<;>assumption
  ·exact Jo bs N (p5+1) x hx
theorem B5m (H:Hp) (r:Nat) (bs:List Int) (p:Int) (h:Ce H r=some (rd bs p)) (hb:Cy bs) (hp:0≤p) (hp2:p≤1000000000):Xv H r bs p:=by
 obtain⟨k0,k1⟩:=Gd bs (p+2) 12 hb (by omega) (by omega)
 have k1:=k1 (by omega)
 have c:Cr bs (p+2) 12=0∨Cr bs (p+2) 12=1∨Cr bs (p+2) 12=2∨Cr bs (p+2) 12=3∨Cr bs (p+2) 12=4∨Cr bs (p+2) 12=5∨Cr bs (p+2) 12=6∨Cr bs (p+2) 12=7∨Cr bs (p+2) 12=8∨Cr bs (p+2) 12=9∨Cr bs (p+2) 12=10∨11≤Cr bs (p+2) 12:=by omega
 rcases c with c|c|c|c|c|c|c|c|c|c|c|c
 ·exact B82 H r bs p h hb hp hp2 c
 ·exact B83 H r bs p h hb hp hp2 c
 ·exact B84 H r bs p h hb hp hp2 c
 ·exact B85 H r bs p h hb hp hp2 c
 ·exact B86 H r bs p h hb hp hp2 c
 ·exact B87 H r bs p h hb hp hp2 c
 ·exact B88 H r bs p h hb hp hp2 c
 ·exact B89 H r bs p h hb hp hp2 c
 ·exact B9a H r bs p h hb hp hp2 c
 ·exact B9b H r bs p h hb hp hp2 c
 ·exact B4q H r bs p h hb hp hp2 c
 ·exact B4r H r bs p h hb hp hp2 c
def rh (H:Hp) (r:Nat) (bs:List Int) (q:Int) (l:Hp):Hp:=ap (Bv H r (rd bs q)) l
section
variable (H l:Hp) (r:Nat) (bs:List Int) (q:Int)
theorem Cc (o:Ev.Obj):Bt (rh H r bs q l) o=rh H r bs q ((l:List Ev.Obj)++[o]):=Bl0 _ _ _
theorem C8:Bc (rh H r bs q l)=Bc H+l.length:=by unfold rh;rw[Bad,Br]
theorem Cx (k:Nat):Ce (rh H r bs q l) (Bc H+k)=Ce l k:=by
 have:=Nr (Bv H r (rd bs q)) l k
 rwa[Br] at this
theorem Ci:Ce (rh H r bs q l) (Bc H)=Ce l 0:=Cx H l r bs q 0
theorem C9 (k:Nat) (o:Ev.Obj):Bv (rh H r bs q l) (Bc H+k) o=rh H r bs q (Bv l k o):=by
 have:=Xx (Bv H r (rd bs q)) l k o
 rwa[Br] at this
theorem Cj (o:Ev.Obj):Bv (rh H r bs q l) (Bc H) o=rh H r bs q (Bv l 0 o):=C9 H l r bs q 0 o
theorem Ck:Dl (rh H r bs q l) (Bc H)=Bv H r (rd bs q):=by
 have:=Mh (Bv H r (rd bs q)) l
 rwa[Br] at this
theorem Bw (k:Nat):Dl (rh H r bs q l) (Bc H+k)=rh H r bs q (l.take k):=by
 have:=Bae (Bv H r (rd bs q)) l k
 rwa[Br] at this
theorem Y6 (hr:r<Bc H):Ce (rh H r bs q l) r=some (rd bs q):=by
 unfold rh
 rw[Q6,ap,List.getElem?_append_left (by simpa[Br,Bc] using(show r<Bc (Bv H r (rd bs q)) by rw[Br];exact hr)),←Q6]
 exact Cw _ hr
theorem Ps (hr:r<Bc H) (q':Int):Bv (rh H r bs q l) r (rd bs q')=rh H r bs q' l:=by
 unfold rh
 have:Bc (Bv H r (rd bs q))=(Bv H r (rd bs q)).length:=rfl
 rw[Tk,ap,ap,List.set_append_left _ _ (by rw[←this,Br];exact hr),←Tk,Lg]
theorem Da (k g i n:Nat):Y0 (Bc H) (rh H r bs q l) (.slc (Bc H+k) g i n)=(match Ce l k with
  |some (.row g' e xs)=>bif Nat.beq g' g then(if i+n≤xs.length then(match Jc (fz (Bc H) 7 (rh H r bs q l)) ((xs.drop i).take n) with|some ys=>some (.d (.vals e ys)) |none=>none) else none) else none
  |_=>none):=by
 have:=Bjo (Bv H r (rd bs q)) l k g i n
 rwa[Br] at this
theorem Ch (g i n:Nat):Y0 (Bc H) (rh H r bs q l) (.slc (Bc H) g i n)=(match Ce l 0 with
  |some (.row g' e xs)=>bif Nat.beq g' g then(if i+n≤xs.length then(match Jc (fz (Bc H) 7 (rh H r bs q l)) ((xs.drop i).take n) with|some ys=>some (.d (.vals e ys)) |none=>none) else none) else none
  |_=>none):=Da H l r bs q 0 g i n
theorem Bsc (m k g e n:Nat) (ds:List D) (hm:m≤k) (h:Ce l k=some (.row g e (ds.map V.d))) (hn:n=ds.length):Y0 (Bc H+m) (rh H r bs q l) (.slc (Bc H+k) g 0 n)=some (.d (.vals e ds)):=by
 have hr:Di (rh H r bs q l) (Bc H+k) g=some (e,ds.map V.d):=by
  unfold Di
  rw[Cx,h]
  simp
 have hmm:Jc (fz (Bc H+m) 7 (rh H r bs q l)) (((ds.map V.d).drop 0).take n)=some ds:=by
  rw[List.drop_zero,List.take_of_length_le (by rw[List.length_map];omega)]
  exact Pp (Qu ds)
 have:=Yb (n:=Bc H+m) (d:=7) (r:=Bc H+k) (g:=g) (i:=0) (k:=n) (by omega) hr (by rw[List.length_map];omega) hmm
 show(if Bc H+k<Bc H+m then _ else(match fz (Bc H+m) Qw _ (.slc (Bc H+k) g 0 n) with|some x=>some (V.d x) |none=>none))=_
 rw[if_neg (by omega),show Qw=7+1 from rfl,this]
theorem Sv {p:Int} (h:Ce H r=some (rd bs p)):H=rh H r bs p []:=by
 unfold rh
 rw[Byq,Gl h]
theorem D7 (l':Hp):ap (rh H r bs q l) l'=rh H r bs q ((l:List Ev.Obj)++l'):=by
 unfold rh;rw[Bqb]
end
theorem Z5 {H l:Hp} {r:Nat} {bs:List Int} {q q':Int} {k:Nat} {args:List V} {v:V} (hr:r<Bc H) (h:ev R k args (rh H r bs q l)=some (v,Bv (rh H r bs q l) r (rd bs q'))):ev R k args (rh H r bs q l)=some (v,rh H r bs q' l):=by
 rw[h,Ps H l r bs q hr]
theorem Gq {H l:Hp} {r:Nat} {bs:List Int} {q:Int} (n:Int) (hr:r<Bc H) (hb:Cy bs) (h0:0≤q) (h1:q≤1000000000000):ev R 54 [.ptr r 0 0 0, .d (.int .i64 n)] (rh H r bs q l)=some (.d (.int .i64 (Cr bs q n)),rh H r bs (q+1) l):=
 Z5 hr (Bnu _ r bs q n (Y6 H l r bs q hr) hb h0 h1)
theorem Bsa {H l:Hp} {r:Nat} {bs:List Int} {q:Int} (xs:List Bp) (hr:r<Bc H) (hb:Cy bs) (h0:0≤q) (h1:q≤1000000000000) (hx:0<xs.length):ev R 29 [.ptr r 0 0 0, .d (Bf xs)] (rh H r bs q l)=some (.d (.str (ofV bs q xs)),rh H r bs (q+1) l):=
 Z5 hr (By7 _ r bs q xs (Y6 H l r bs q hr) hb h0 h1 hx)
theorem Tx {H l:Hp} {r:Nat} {bs:List Int} {q:Int} (hr:r<Bc H) (hb:Cy bs) (h0:0≤q) (h1:q≤1000000000000):ev R 75 [.ptr r 0 0 0] (rh H r bs q l)=some (.d (.str (Lh bs q)),rh H r bs (q+1) l):=
 Z5 hr (By8 _ r bs q (Y6 H l r bs q hr) hb h0 h1)
abbrev Bgo (ns:List Int):D:= .vals 1 (ns.map (D.int .i64))
def Bbq (bs:List Int) (q:Int) (ns:List Int):Int:=ns.getD (Cr bs q ns.length).toNat 0
theorem Qk (bs:List Int) (q:Int) (ns:List Int) (hb:Cy bs) (h0:0≤q) (h1:q≤1000000000000) (hn:0<ns.length):Bbq bs q ns∈ns:=by
 unfold Bbq
 have:=Gd bs q ns.length hb h0 h1
 have h2:=this.2 (by omega)
 have hi: (Cr bs q ns.length).toNat<ns.length:=by omega
 rw[List.getD_eq_getElem?_getD,List.getElem?_eq_getElem hi]
 exact List.getElem_mem hi
theorem B5c (H:Hp) (r:Nat) (bs:List Int) (p:Int) (ns:List Int) (h:Ce H r=some (rd bs p)) (hb:Cy bs) (hp:0≤p) (hp2:p≤1000000000000) (hx:0<ns.length) (hx2:ns.length≤1000000):ev R 33 [.ptr r 0 0 0, .d (Bgo ns)] H=some (.d (.int .i64 (Bbq bs p ns)),Bv H r (rd bs (p+1))):=by
 refine Bh (fn:=f33) rfl rfl ?_
 have e:=Bnu H r bs p ns.length h hb hp hp2
 obtain⟨k0,k1⟩:=Gd bs p ns.length hb hp hp2
 have k1:=k1 (by omega)
 unfold Bbq
 generalize Cr bs p ns.length=z at*
 obtain⟨k,rfl⟩:=Int.eq_ofNat_of_zero_le k0
 have hk:k<ns.length:=by omega
 have g: (ns.map (D.int .i64)).getD k .nilp= .int .i64 (ns.getD k 0):=by simp[List.getD_eq_getElem?_getD,hk]
 simp[Cu,-List.getD_eq_getElem?_getD,-List.map_map,f33,e,k0,k1,hk,g,Ld]
theorem Yl {H l:Hp} {r:Nat} {bs:List Int} {q:Int} (ns:List Int) (hr:r<Bc H) (hb:Cy bs) (h0:0≤q) (h1:q≤1000000000000) (hx:0<ns.length) (hx2:ns.length≤1000000):ev R 33 [.ptr r 0 0 0, .d (Bgo ns)] (rh H r bs q l)=some (.d (.int .i64 (Bbq bs q ns)),rh H r bs (q+1) l):=
 Z5 hr (B5c _ r bs q ns (Y6 H l r bs q hr) hb h0 h1 hx hx2)
theorem Bsb {H l:Hp} {r:Nat} {bs:List Int} {q:Int} (hr:r<Bc H) (hb:Cy bs) (h0:0≤q) (h1:q≤1000000000):
  ∃ (ts:List Bp) (q':Int),ev R 81 [.ptr r 0 0 0] (rh H r bs q l)=some (.slc (Bc H+l.length) 0 0 ts.length,rh H r bs q' ((l:List Ev.Obj)++[.row 0 1 ((ts.map D.str).map V.d)]))∧q≤q'∧q'≤q+20∧1≤ts.length∧ts.length≤8∧∀x∈ts,x.length≤40:=by
 obtain⟨ts,q',he,a,b,c,d,f⟩:=B5m _ r bs q (Y6 H l r bs q hr) hb h0 h1
 refine⟨ts,q', ?_,a,b,c,d,f⟩
 rw[he,Ps H l r bs q hr,Cc,C8]
 rfl
def Nxt (I:Nat→Env→Hp→Prop) (n:Nat) (e:Env) (X:Hp):Prop:=∃m,m<n∧I m e X
end Go.Proofs.YtjdmiodinhlchaaGreat.Code

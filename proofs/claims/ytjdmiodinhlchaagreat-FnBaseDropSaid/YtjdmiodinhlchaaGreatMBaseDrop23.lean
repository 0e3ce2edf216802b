/- Lemmas (several texts in one). -/
import Derived.Test.YtjdmiodinhlchaaGreatMBaseDrop7
import Derived.Test.YtjdmiodinhlchaaGreatMBaseDrop22
set_option maxRecDepth 100000
set_option linter.unusedSimpArgs false
set_option linter.unusedVariables false
set_option maxHeartbeats 2000000
namespace Go.Proofs.YtjdmiodinhlchaaGreat.Code
open Go Go.Ev Go.Proofs
theorem Fb {H:Hp} {r:Nat} {o:Ev.Obj} (h:B6 H r=some o):Bu H r o=H:=by
 induction H generalizing r with
 |nil=>rfl
 |cons a H ih=>
  cases r with
  |zero=>simp only[B6,Option.some.injEq] at h;subst h;rfl
  |succ r=>exact congrArg (List.cons a) (ih h)
theorem Gs (bs:List Int): ∀ (n:Nat) (p:Int),∀x∈Dy bs n p,x.length≤40
 |0,p=>by simp[Dy]
 |n+1,p=>by
  intro x hx
  simp only[Dy,List.mem_cons] at hx
  rcases hx with rfl|hx
  ·exact Y8 bs p
  ·exact Gs bs n (p+1) x hx
theorem Jv (H:Hp) (r:Nat) (bs:List Int) (q q':Int) (xs:List Bm) {o:Ev.Obj} (h:B6 H r=some o) (hb:Cz bs) (hq:0≤q) (hq2:q≤100000000000) (hq':q'=q+1) (hx:0<xs.length) (hm: ∀x∈xs,x.length≤40):
  ∃t:Bm,t.length≤40∧ev R 29 [.ptr r 0 0 0, .d (Bf xs)] (Bu H r (rd bs q))=some (.d (.str t),Bu H r (rd bs q')):=by
 subst hq'
 have e:=Bs6 (Bu H r (rd bs q)) r bs q xs (Cd _ (Dj h)) hb hq (by omega) hx
 rw[J1] at e
 exact⟨_,T2 bs q xs 40 hm,e⟩
theorem Tr (H:Hp) (r:Nat) (bs:List Int) (q q':Int) {o:Ev.Obj} (h:B6 H r=some o) (hb:Cz bs) (hq:0≤q) (hq2:q≤100000000000) (hq':q'=q+1):
  ∃t:Bm,t.length≤40∧ev R 75 [.ptr r 0 0 0] (Bu H r (rd bs q))=some (.d (.str t),Bu H r (rd bs q')):=by
 subst hq'
 have e:=Bu2 (Bu H r (rd bs q)) r bs q (Cd _ (Dj h)) hb hq (by omega)
 rw[J1] at e
 exact⟨_,Y8 bs q,e⟩
theorem Tq (H:Hp) (r:Nat) (bs:List Int) (q q' n:Int) {o:Ev.Obj} (h:B6 H r=some o) (hb:Cz bs) (hq:0≤q) (hq2:q≤100000000000) (hq':q'=q+1):
  ev R 54 [.ptr r 0 0 0, .d (.int .i64 n)] (Bu H r (rd bs q))=some (.d (.int .i64 (Cr bs q n)),Bu H r (rd bs q')):=by
 subst hq'
 have e:=Ble (Bu H r (rd bs q)) r bs q n (Cd _ (Dj h)) hb hq (by omega)
 rwa[J1] at e
theorem Sh (H:Hp) (r:Nat) (bs:List Int) (q q':Int) {o:Ev.Obj} (h:B6 H r=some o) (hb:Cz bs) (hq:0≤q) (hq2:q≤100000000000) (hq':q'=q+1):
  ∃t:Bm,t.length≤40∧ev R 69 [.ptr r 0 0 0] (Bu H r (rd bs q))=some (.d (.str t),Bu H r (rd bs q')):=by
 obtain⟨t,l,e⟩:=Jv H r bs q q' [[107],[108],[115],[122],[104],[107,50],[108]] h hb hq hq2 hq' (by simp) (by simp)
 refine⟨t,l,Bi (fn:=f69) rfl rfl ?_⟩
 have hl:=Gp (Bu H r (rd bs q'))
 rw[Bq] at hl
 have hl2:=Bq H r (rd bs q)
 simp only[Bf,List.map_cons,List.map_nil] at e
 simp[B9,-List.getD_eq_getElem?_getD,-List.map_map,f69,e,hl,hl2]
theorem Biv (H:Hp) (r:Nat) (bs:List Int) (q q':Int) {o:Ev.Obj} (h:B6 H r=some o) (hb:Cz bs) (hq:0≤q) (hq2:q≤100000000000) (hq':q'=q+1):
  ∃t:Bm,t.length≤40∧ev R 106 [.ptr r 0 0 0] (Bu H r (rd bs q))=some (.d (.str t),Bu H r (rd bs q')):=by
 obtain⟨t,l,e⟩:=Jv H r bs q q' [[48],[49],[45,49],[50],[45,50],[53],[49,48,48],[45,49,48,48],[49,48,48,48,48,48,48,48,48,48],[120]] h hb hq hq2 hq' (by simp) (by simp)
 refine⟨t,l,Bi (fn:=f106) rfl rfl ?_⟩
 have hl:=Gp (Bu H r (rd bs q'))
 rw[Bq] at hl
 have hl2:=Bq H r (rd bs q)
 simp only[Bf,List.map_cons,List.map_nil] at e
 simp[B9,-List.getD_eq_getElem?_getD,-List.map_map,f106,e,hl,hl2]
theorem Bte (H:Hp) (r:Nat) (bs:List Int) (q:Int) (mi:Int) (most:Nat) (hmi:mi=most) (L:List Bm) {o:Ev.Obj} (h:B6 H r=some o) (hb:Cz bs) (hq:0≤q) (hq2:q≤10000000000) (hm:most≤3):
  ∃ (N:Nat) (p9:Int),N≤most∧(q≤p9∧p9≤q+5)∧ev R 101 [.ptr r 0 0 0, .d (.int .i64 mi)] (Bp (Bu H r (rd bs q)) (.row 0 1 ((L.map D.str).map V.d)))=some (.slc (Bc H+1) 0 0 N,Bp (Bp (Bu H r (rd bs p9)) (.row 0 1 ((L.map D.str).map V.d))) (Gk 0 (Dy bs N (q+1)))):=by
 subst hmi
 have hr:=Dj h
 have hg:B6 (Bp (Bu H r (rd bs q)) (.row 0 1 ((L.map D.str).map V.d))) r=some (rd bs q):=by
  rw[Da _ (by rw[Bq];exact hr),Cd _ hr]
 have e:=Buo _ r bs q most hg hb hq (by omega) (by omega)
 obtain⟨k0,k1⟩:=Gg bs q ((most:Int)+1) hb hq (by omega)
 have k1:=k1 (by omega)
 obtain⟨N,hN⟩: ∃N,(Cr bs q ((most:Int)+1)).toNat=N:=⟨_,rfl⟩
 rw[hN,Bx,Bq,Kz (by rw[Bq];exact hr),J1] at e
 exact⟨N,q+1+N,by omega,by omega,e⟩
theorem Zd (H X:Hp) (hl:Bc X=Bc H) (ds ts:List Bm) (N:Nat) (hN:ts.length=N):
  Cm (Bp (Bp X (.row 0 1 ((ds.map D.str).map V.d))) (Gk 0 ts)) (Bc H) 0=some (1,(ds.map D.str).map V.d)∧
  Nc (Bp (Bp X (.row 0 1 ((ds.map D.str).map V.d))) (Gk 0 ts)) (.slc (Bc H+1) 0 0 N)=some (1,(ts.map D.str).map V.d,false)∧
  Bu (Bp (Bp X (.row 0 1 ((ds.map D.str).map V.d))) (Gk 0 ts)) (Bc H) (.row 1 1 ((ds.map D.str).map V.d++(ts.map D.str).map V.d))=Bp (Bp X (.row 1 1 ((ds.map D.str).map V.d++(ts.map D.str).map V.d))) (Gk 0 ts)∧
  Tp (Bc H) (Bp (Bp X (.row 1 1 ((ds.map D.str).map V.d++(ts.map D.str).map V.d))) (Gk 0 ts)) (.slc (Bc H) 1 0 (ds.length+N))=some (.d (.vals 1 (ds.map D.str++ts.map D.str)))∧
  Ck (Bp (Bp X (.row 1 1 ((ds.map D.str).map V.d++(ts.map D.str).map V.d))) (Gk 0 ts)) (Bc H)=X∧
  ((ts.map D.str).map V.d).all (M7 (Bc H) (Bc H))=true:=by
 subst hN
 rw[←hl]
 refine⟨?_, ?_, ?_, ?_, ?_, ?_⟩
 ·simp only[Cm,Da _ (show Bc X<Bc (Bp X (.row 0 1 ((ds.map D.str).map V.d))) by rw[Bx];omega),C5]
  rfl
 ·have hr:Cm (Bp (Bp X (.row 0 1 ((ds.map D.str).map V.d))) (Gk 0 ts)) (Bc X+1) 0=some (1,(ts.map D.str).map V.d):=W4 (by rw[Bx])
  simp only[Nc,hr]
  rw[if_pos (by simp),List.drop_zero,List.take_of_length_le (by simp)]
 ·rw[Kz (by rw[Bx];omega),Mh]
 ·have hr:Cm (Bp (Bp X (.row 1 1 ((ds.map D.str).map V.d++(ts.map D.str).map V.d))) (Gk 0 ts)) (Bc X) 1=some (1,(ds.map D.str).map V.d++(ts.map D.str).map V.d):=by
   simp only[Cm,Da _ (show Bc X<Bc (Bp X (.row 1 1 ((ds.map D.str).map V.d++(ts.map D.str).map V.d))) by rw[Bx];omega),C5]
   rfl
  have h:=Se (n:=Bc X) (d:=7) (i:=0) (k:=ds.length+ts.length) (by omega) hr (by simp) (ys:=ds.map D.str++ts.map D.str) (by
   rw[List.drop_zero,List.take_of_length_le (by simp),←List.map_append];exact Wh _)
  show(if Bc X<Bc X then _ else(match fz (Bc X) Mw _ (.slc (Bc X) 1 0 (ds.length+ts.length)) with|some x=>some (V.d x) |none=>none))=_
  rw[if_neg (by omega),show Mw=7+1 from rfl,h]
 ·simp[Ck,Bp,Bc]
 ·simp[M7,Gt]
theorem K1 (H X:Hp) (hl:Bc X=Bc H) (ds:List Bm):
  Cm (Bp X (.row 0 1 ((ds.map D.str).map V.d))) (Bc H) 0=some (1,(ds.map D.str).map V.d)∧Ck (Bp X (.row 0 1 ((ds.map D.str).map V.d))) (Bc H)=X∧True:=by
 rw[←hl]
 exact⟨Ci _ _ _ _,Df _ _,trivial⟩
theorem Sn (H X:Hp) (hl:Bc X=Bc H) (g:Nat) (ys:List V) (o:Ev.Obj):Cm (Bp (Bp X (.row g 1 ys)) o) (Bc H) g=some (1,ys):=by
 rw[←hl]
 simp only[Cm,Da _ (show Bc X<Bc (Bp X (.row g 1 ys)) by rw[Bx];omega),C5]
 simp
def Rz (H:Hp) (r:Nat) (bs:List Int) (p:Int):Prop:=
 ∃ (ts:List Bm) (p':Int),ev R 81 [.ptr r 0 0 0] H=some (.slc (Bc H) 0 0 ts.length,Bp (Bu H r (rd bs p')) (Gk 0 ts))∧p≤p'∧p'≤p+20∧1≤ts.length∧ts.length≤8∧∀x∈ts,x.length≤40
theorem B19 (H:Hp) (r:Nat) (bs:List Int) (p:Int) (h:B6 H r=some (rd bs p)) (hb:Cz bs) (hp:0≤p) (hp2:p≤1000000000) (hc:Cr bs (p+2) 12=0):Rz H r bs p:=by
 obtain⟨p1,hp1⟩: ∃q,q=p+1:=⟨_,rfl⟩
 obtain⟨p2,hp2'⟩: ∃q,q=p1+1:=⟨_,rfl⟩
 obtain⟨p3,hp3⟩: ∃q,q=p2+1:=⟨_,rfl⟩
 obtain⟨kk,lk,qk⟩:=Sh H r bs p p1 h hb (by omega) (by omega) hp1
 rw[Fb h] at qk
 obtain⟨tt,lt,qt⟩:=Tr H r bs p1 p2 h hb (by omega) (by omega) hp2'
 have qp:=Tq H r bs p2 p3 12 h hb (by omega) (by omega) hp3
 rw[show p2=p+2 by omega] at qp
 rw[hc] at qp
 rw[show p+2=p2 by omega] at qp
 obtain⟨p4,hp4⟩: ∃q,q=p3+1:=⟨_,rfl⟩
 obtain⟨t1,l1,q1⟩:=Jv H r bs p3 p4 [[71,69,84],[83,84,82,76,69,78],[73,78,67,82],[76,80,79,80],[82,80,79,80],[76,76,69,78],[83,77,69,77,66,69,82,83],[83,67,65,82,68],[90,67,65,82,68],[72,71,69,84,65,76,76],[72,76,69,78],[84,89,80,69],[84,84,76],[80,69,82,83,73,83,84]] h hb (by omega) (by omega) hp4 (by simp) (by simp[*])
 simp only[Bf,List.map_cons,List.map_nil] at q1
 refine⟨[t1,kk],p4, ?_,by omega,by omega,by simp,by simp,by simp[*]⟩
 obtain⟨o1,o2,o3⟩:=K1 H (Bu H r (rd bs p4)) (Bq _ _ _) [t1,kk]
 refine Bi (fn:=f81) rfl rfl ?_
 have hl:=Bq H r (rd bs p4)
 simp only[Gk,List.map_cons,List.map_nil,List.length_cons,List.length_nil,Nat.zero_add,Nat.reduceAdd] at o1 o2⊢
 simp[B9,-List.getD_eq_getElem?_getD,-List.map_map,f81,qk,qt,qp,q1,hl,o1,o2,Un]
theorem B2a (H:Hp) (r:Nat) (bs:List Int) (p:Int) (h:B6 H r=some (rd bs p)) (hb:Cz bs) (hp:0≤p) (hp2:p≤1000000000) (hc:Cr bs (p+2) 12=1):Rz H r bs p:=by
 obtain⟨p1,hp1⟩: ∃q,q=p+1:=⟨_,rfl⟩
 obtain⟨p2,hp2'⟩: ∃q,q=p1+1:=⟨_,rfl⟩
 obtain⟨p3,hp3⟩: ∃q,q=p2+1:=⟨_,rfl⟩
 obtain⟨kk,lk,qk⟩:=Sh H r bs p p1 h hb (by omega) (by omega) hp1
 rw[Fb h] at qk
 obtain⟨tt,lt,qt⟩:=Tr H r bs p1 p2 h hb (by omega) (by omega) hp2'
 have qp:=Tq H r bs p2 p3 12 h hb (by omega) (by omega) hp3
 rw[show p2=p+2 by omega] at qp
 rw[hc] at qp
 rw[show p+2=p2 by omega] at qp
 obtain⟨p4,hp4⟩: ∃q,q=p3+1:=⟨_,rfl⟩
 obtain⟨t1,l1,q1⟩:=Jv H r bs p3 p4 [[107],[107,50]] h hb (by omega) (by omega) hp4 (by simp) (by simp[*])
 simp only[Bf,List.map_cons,List.map_nil] at q1
 refine⟨[[83,69,84],t1,tt],p4, ?_,by omega,by omega,by simp,by simp,by simp[*]⟩
 obtain⟨o1,o2,o3⟩:=K1 H (Bu H r (rd bs p4)) (Bq _ _ _) [[83,69,84],t1,tt]
 refine Bi (fn:=f81) rfl rfl ?_
 have hl:=Bq H r (rd bs p4)
 simp only[Gk,List.map_cons,List.map_nil,List.length_cons,List.length_nil,Nat.zero_add,Nat.reduceAdd] at o1 o2⊢
 simp[B9,-List.getD_eq_getElem?_getD,-List.map_map,f81,qk,qt,qp,q1,hl,o1,o2,Un]
theorem B2b (H:Hp) (r:Nat) (bs:List Int) (p:Int) (h:B6 H r=some (rd bs p)) (hb:Cz bs) (hp:0≤p) (hp2:p≤1000000000) (hc:Cr bs (p+2) 12=2):Rz H r bs p:=by
 obtain⟨p1,hp1⟩: ∃q,q=p+1:=⟨_,rfl⟩
 obtain⟨p2,hp2'⟩: ∃q,q=p1+1:=⟨_,rfl⟩
 obtain⟨p3,hp3⟩: ∃q,q=p2+1:=⟨_,rfl⟩
 obtain⟨kk,lk,qk⟩:=Sh H r bs p p1 h hb (by omega) (by omega) hp1
 rw[Fb h] at qk
 obtain⟨tt,lt,qt⟩:=Tr H r bs p1 p2 h hb (by omega) (by omega) hp2'
 have qp:=Tq H r bs p2 p3 12 h hb (by omega) (by omega) hp3
 rw[show p2=p+2 by omega] at qp
 rw[hc] at qp
 rw[show p+2=p2 by omega] at qp
 obtain⟨p4,hp4⟩: ∃q,q=p3+1:=⟨_,rfl⟩
 obtain⟨t1,l1,q1⟩:=Jv H r bs p3 p4 [[65,80,80,69,78,68],[73,78,67,82,66,89]] h hb (by omega) (by omega) hp4 (by simp) (by simp[*])
 simp only[Bf,List.map_cons,List.map_nil] at q1
 obtain⟨p5,hp5⟩: ∃q,q=p4+1:=⟨_,rfl⟩
 obtain⟨t2,l2,q2⟩:=Jv H r bs p4 p5 [[107],[107,50]] h hb (by omega) (by omega) hp5 (by simp) (by simp[*])
 simp only[Bf,List.map_cons,List.map_nil] at q2
 obtain⟨p6,hp6⟩: ∃q,q=p5+1:=⟨_,rfl⟩
 obtain⟨t3,l3,q3⟩:=Biv H r bs p5 p6 h hb (by omega) (by omega) hp6
 obtain⟨p7,hp7⟩: ∃q,q=p6+1:=⟨_,rfl⟩
 obtain⟨t4,l4,q4⟩:=Jv H r bs p6 p7 [tt,t3] h hb (by omega) (by omega) hp7 (by simp) (by simp[*])
 simp only[Bf,List.map_cons,List.map_nil] at q4
 refine⟨[t1,t2,t4],p7, ?_,by omega,by omega,by simp,by simp,by simp[*]⟩
 obtain⟨o1,o2,o3⟩:=K1 H (Bu H r (rd bs p7)) (Bq _ _ _) [t1,t2,t4]
 refine Bi (fn:=f81) rfl rfl ?_
 have hl:=Bq H r (rd bs p7)
 simp only[Gk,List.map_cons,List.map_nil,List.length_cons,List.length_nil,Nat.zero_add,Nat.reduceAdd] at o1 o2⊢
 simp[B9,-List.getD_eq_getElem?_getD,-List.map_map,f81,qk,qt,qp,q1,q2,q3,q4,hl,o1,o2,Un]
theorem B2c (H:Hp) (r:Nat) (bs:List Int) (p:Int) (h:B6 H r=some (rd bs p)) (hb:Cz bs) (hp:0≤p) (hp2:p≤1000000000) (hc:Cr bs (p+2) 12=3):Rz H r bs p:=by
 obtain⟨p1,hp1⟩: ∃q,q=p+1:=⟨_,rfl⟩
 obtain⟨p2,hp2'⟩: ∃q,q=p1+1:=⟨_,rfl⟩
 obtain⟨p3,hp3⟩: ∃q,q=p2+1:=⟨_,rfl⟩
 obtain⟨kk,lk,qk⟩:=Sh H r bs p p1 h hb (by omega) (by omega) hp1
 rw[Fb h] at qk
 obtain⟨tt,lt,qt⟩:=Tr H r bs p1 p2 h hb (by omega) (by omega) hp2'
 have qp:=Tq H r bs p2 p3 12 h hb (by omega) (by omega) hp3
 rw[show p2=p+2 by omega] at qp
 rw[hc] at qp
 rw[show p+2=p2 by omega] at qp
 obtain⟨p4,hp4⟩: ∃q,q=p3+1:=⟨_,rfl⟩
 obtain⟨t1,l1,q1⟩:=Jv H r bs p3 p4 [[76,80,85,83,72],[82,80,85,83,72]] h hb (by omega) (by omega) hp4 (by simp) (by simp[*])
 simp only[Bf,List.map_cons,List.map_nil] at q1
 obtain⟨p5,hp5⟩: ∃q,q=p4+1:=⟨_,rfl⟩
 obtain⟨t2,l2,q2⟩:=Jv H r bs p4 p5 [[108],[108],[107]] h hb (by omega) (by omega) hp5 (by simp) (by simp[*])
 simp only[Bf,List.map_cons,List.map_nil] at q2
 obtain⟨N,p9,nl,pl,q9⟩:=Bte H r bs p5 3 3 rfl ([t1,t2,tt]:List Bm) h hb (by omega) (by omega) (by omega)
 obtain⟨a1,a2,a3,a4,a5,a6⟩:=Zd H (Bu H r (rd bs p9)) (Bq _ _ _) [t1,t2,tt] (Dy bs N (p5+1)) N (Jm bs N (p5+1))
 have tl:=Jm bs N (p5+1)
 refine⟨[t1,t2,tt]++Dy bs N (p5+1),p9, ?_,by omega,by omega,by simp,by simp[tl];omega,fun x hx=> ?_⟩
 ·refine Bi (fn:=f81) rfl rfl ?_
  have sh:=Gs bs N (p5+1)
  clear sh
  generalize Dy bs N (p5+1)=ts at a1 a2 a3 a4 a5 a6 q9 tl⊢
  simp only[List.map_cons,List.map_nil,List.cons_append,List.nil_append,List.length_cons,List.length_nil,Bf,Nat.zero_add,Nat.reduceAdd] at a1 a2 a3 a4 a5 a6 q9⊢
  have rm: (N+3)*16≤Cb:=by unfold Cb;omega
  have rm2: (3+N)*16≤Cb:=by unfold Cb;omega
  have hl:=Bq H r (rd bs p5)
  have aD:=Ua (ts.map D.str)
  have r1: ∀ys:List V,Cm (Bp (Bp (Bu H r (rd bs p9)) (.row 1 1 ys)) (Gk 0 ts)) (Bc H) 1=some (1,ys):=fun ys=>Sn H (Bu H r (rd bs p9)) (Bq _ _ _) 1 ys (Gk 0 ts)
  have hl9:=Bq H r (rd bs p9)
  show _=some (V.slc (Bc H) 0 0 _,Bp (Bu H r (rd bs p9)) (.row 0 1 _))
  simp only[List.length_cons,List.length_nil,List.length_append,tl,Nat.zero_add,Nat.reduceAdd,List.map_cons,List.map_nil,List.cons_append,List.nil_append]
  simp[B9,-List.getD_eq_getElem?_getD,-List.map_map,f81,qk,qt,qp,q1,q2,hl,hl9,q9,a1,a2,a3,a5,a6,rm,rm2,tl,aD,r1,Un]
  omega
 ·rcases List.mem_append.1 hx with hx|hx
  ·simp only[List.mem_cons,List.not_mem_nil,or_false] at hx
   rcases hx with rfl|rfl|rfl<;>assumption
  ·exact Gs bs N (p5+1) x hx
theorem B2d (H:Hp) (r:Nat) (bs:List Int) (p:Int) (h:B6 H r=some (rd bs p)) (hb:Cz bs) (hp:0≤p) (hp2:p≤1000000000) (hc:Cr bs (p+2) 12=4):Rz H r bs p:=by
 obtain⟨p1,hp1⟩: ∃q,q=p+1:=⟨_,rfl⟩
 obtain⟨p2,hp2'⟩: ∃q,q=p1+1:=⟨_,rfl⟩
 obtain⟨p3,hp3⟩: ∃q,q=p2+1:=⟨_,rfl⟩
 obtain⟨kk,lk,qk⟩:=Sh H r bs p p1 h hb (by omega) (by omega) hp1
 rw[Fb h] at qk
 obtain⟨tt,lt,qt⟩:=Tr H r bs p1 p2 h hb (by omega) (by omega) hp2'
 have qp:=Tq H r bs p2 p3 12 h hb (by omega) (by omega) hp3
 rw[show p2=p+2 by omega] at qp
 rw[hc] at qp
 rw[show p+2=p2 by omega] at qp
 obtain⟨p4,hp4⟩: ∃q,q=p3+1:=⟨_,rfl⟩
 obtain⟨t1,l1,q1⟩:=Jv H r bs p3 p4 [[76,82,65,78,71,69],[76,84,82,73,77],[76,83,69,84],[76,82,69,77],[71,69,84,82,65,78,71,69]] h hb (by omega) (by omega) hp4 (by simp) (by simp[*])
 simp only[Bf,List.map_cons,List.map_nil] at q1
 obtain⟨p5,hp5⟩: ∃q,q=p4+1:=⟨_,rfl⟩
 obtain⟨t2,l2,q2⟩:=Jv H r bs p4 p5 [[108],[108],[107]] h hb (by omega) (by omega) hp5 (by simp) (by simp[*])
 simp only[Bf,List.map_cons,List.map_nil] at q2
 obtain⟨p6,hp6⟩: ∃q,q=p5+1:=⟨_,rfl⟩
 obtain⟨t3,l3,q3⟩:=Biv H r bs p5 p6 h hb (by omega) (by omega) hp6
 obtain⟨p7,hp7⟩: ∃q,q=p6+1:=⟨_,rfl⟩
 obtain⟨t4,l4,q4⟩:=Biv H r bs p6 p7 h hb (by omega) (by omega) hp7
 obtain⟨p8,hp8⟩: ∃q,q=p7+1:=⟨_,rfl⟩
 obtain⟨t5,l5,q5⟩:=Jv H r bs p7 p8 [t4,tt] h hb (by omega) (by omega) hp8 (by simp) (by simp[*])
 simp only[Bf,List.map_cons,List.map_nil] at q5
 refine⟨[t1,t2,t3,t5],p8, ?_,by omega,by omega,by simp,by simp,by simp[*]⟩
 obtain⟨o1,o2,o3⟩:=K1 H (Bu H r (rd bs p8)) (Bq _ _ _) [t1,t2,t3,t5]
 refine Bi (fn:=f81) rfl rfl ?_
 have hl:=Bq H r (rd bs p8)
 simp only[Gk,List.map_cons,List.map_nil,List.length_cons,List.length_nil,Nat.zero_add,Nat.reduceAdd] at o1 o2⊢
 simp[B9,-List.getD_eq_getElem?_getD,-List.map_map,f81,qk,qt,qp,q1,q2,q3,q4,q5,hl,o1,o2,Un]
theorem B2e (H:Hp) (r:Nat) (bs:List Int) (p:Int) (h:B6 H r=some (rd bs p)) (hb:Cz bs) (hp:0≤p) (hp2:p≤1000000000) (hc:Cr bs (p+2) 12=5):Rz H r bs p:=by
 obtain⟨p1,hp1⟩: ∃q,q=p+1:=⟨_,rfl⟩
 obtain⟨p2,hp2'⟩: ∃q,q=p1+1:=⟨_,rfl⟩
 obtain⟨p3,hp3⟩: ∃q,q=p2+1:=⟨_,rfl⟩
 obtain⟨kk,lk,qk⟩:=Sh H r bs p p1 h hb (by omega) (by omega) hp1
 rw[Fb h] at qk
 obtain⟨tt,lt,qt⟩:=Tr H r bs p1 p2 h hb (by omega) (by omega) hp2'
 have qp:=Tq H r bs p2 p3 12 h hb (by omega) (by omega) hp3
 rw[show p2=p+2 by omega] at qp
 rw[hc] at qp
 rw[show p+2=p2 by omega] at qp
 obtain⟨p4,hp4⟩: ∃q,q=p3+1:=⟨_,rfl⟩
 obtain⟨t1,l1,q1⟩:=Jv H r bs p3 p4 [[83,65,68,68],[83,65,68,68],[83,82,69,77]] h hb (by omega) (by omega) hp4 (by simp) (by simp[*])
 simp only[Bf,List.map_cons,List.map_nil] at q1
 obtain⟨p5,hp5⟩: ∃q,q=p4+1:=⟨_,rfl⟩
 obtain⟨t2,l2,q2⟩:=Jv H r bs p4 p5 [[115],[115,50]] h hb (by omega) (by omega) hp5 (by simp) (by simp[*])
 simp only[Bf,List.map_cons,List.map_nil] at q2
 obtain⟨N,p9,nl,pl,q9⟩:=Bte H r bs p5 2 2 rfl ([t1,t2,tt]:List Bm) h hb (by omega) (by omega) (by omega)
 obtain⟨a1,a2,a3,a4,a5,a6⟩:=Zd H (Bu H r (rd bs p9)) (Bq _ _ _) [t1,t2,tt] (Dy bs N (p5+1)) N (Jm bs N (p5+1))
 have tl:=Jm bs N (p5+1)
 refine⟨[t1,t2,tt]++Dy bs N (p5+1),p9, ?_,by omega,by omega,by simp,by simp[tl];omega,fun x hx=> ?_⟩
 ·refine Bi (fn:=f81) rfl rfl ?_
  have sh:=Gs bs N (p5+1)
  clear sh
  generalize Dy bs N (p5+1)=ts at a1 a2 a3 a4 a5 a6 q9 tl⊢
  simp only[List.map_cons,List.map_nil,List.cons_append,List.nil_append,List.length_cons,List.length_nil,Bf,Nat.zero_add,Nat.reduceAdd] at a1 a2 a3 a4 a5 a6 q9⊢
  have rm: (N+3)*16≤Cb:=by unfold Cb;omega
  have rm2: (3+N)*16≤Cb:=by unfold Cb;omega
  have hl:=Bq H r (rd bs p5)
  have aD:=Ua (ts.map D.str)
  have r1: ∀ys:List V,Cm (Bp (Bp (Bu H r (rd bs p9)) (.row 1 1 ys)) (Gk 0 ts)) (Bc H) 1=some (1,ys):=fun ys=>Sn H (Bu H r (rd bs p9)) (Bq _ _ _) 1 ys (Gk 0 ts)
  have hl9:=Bq H r (rd bs p9)
  show _=some (V.slc (Bc H) 0 0 _,Bp (Bu H r (rd bs p9)) (.row 0 1 _))
  simp only[List.length_cons,List.length_nil,List.length_append,tl,Nat.zero_add,Nat.reduceAdd,List.map_cons,List.map_nil,List.cons_append,List.nil_append]
  simp[B9,-List.getD_eq_getElem?_getD,-List.map_map,f81,qk,qt,qp,q1,q2,hl,hl9,q9,a1,a2,a3,a5,a6,rm,rm2,tl,aD,r1,Un]
  omega
 ·rcases List.mem_append.1 hx with hx|hx
  ·simp only[List.mem_cons,List.not_mem_nil,or_false] at hx
   rcases hx with rfl|rfl|rfl<;>assumption
  ·exact Gs bs N (p5+1) x hx
theorem B2f (H:Hp) (r:Nat) (bs:List Int) (p:Int) (h:B6 H r=some (rd bs p)) (hb:Cz bs) (hp:0≤p) (hp2:p≤1000000000) (hc:Cr bs (p+2) 12=6):Rz H r bs p:=by
 obtain⟨p1,hp1⟩: ∃q,q=p+1:=⟨_,rfl⟩
 obtain⟨p2,hp2'⟩: ∃q,q=p1+1:=⟨_,rfl⟩
 obtain⟨p3,hp3⟩: ∃q,q=p2+1:=⟨_,rfl⟩
 obtain⟨kk,lk,qk⟩:=Sh H r bs p p1 h hb (by omega) (by omega) hp1
 rw[Fb h] at qk
 obtain⟨tt,lt,qt⟩:=Tr H r bs p1 p2 h hb (by omega) (by omega) hp2'
 have qp:=Tq H r bs p2 p3 12 h hb (by omega) (by omega) hp3
 rw[show p2=p+2 by omega] at qp
 rw[hc] at qp
 rw[show p+2=p2 by omega] at qp
 obtain⟨p4,hp4⟩: ∃q,q=p3+1:=⟨_,rfl⟩
 obtain⟨t1,l1,q1⟩:=Jv H r bs p3 p4 [[83,73,83,77,69,77,66,69,82],[83,73,78,84,69,82],[83,85,78,73,79,78],[83,68,73,70,70]] h hb (by omega) (by omega) hp4 (by simp) (by simp[*])
 simp only[Bf,List.map_cons,List.map_nil] at q1
 obtain⟨p5,hp5⟩: ∃q,q=p4+1:=⟨_,rfl⟩
 obtain⟨t2,l2,q2⟩:=Jv H r bs p4 p5 [[115],[115,50]] h hb (by omega) (by omega) hp5 (by simp) (by simp[*])
 simp only[Bf,List.map_cons,List.map_nil] at q2
 obtain⟨p6,hp6⟩: ∃q,q=p5+1:=⟨_,rfl⟩
 obtain⟨t3,l3,q3⟩:=Jv H r bs p5 p6 [[115],[115,50],tt] h hb (by omega) (by omega) hp6 (by simp) (by simp[*])
 simp only[Bf,List.map_cons,List.map_nil] at q3
 refine⟨[t1,t2,t3],p6, ?_,by omega,by omega,by simp,by simp,by simp[*]⟩
 obtain⟨o1,o2,o3⟩:=K1 H (Bu H r (rd bs p6)) (Bq _ _ _) [t1,t2,t3]
 refine Bi (fn:=f81) rfl rfl ?_
 have hl:=Bq H r (rd bs p6)
 simp only[Gk,List.map_cons,List.map_nil,List.length_cons,List.length_nil,Nat.zero_add,Nat.reduceAdd] at o1 o2⊢
 simp[B9,-List.getD_eq_getElem?_getD,-List.map_map,f81,qk,qt,qp,q1,q2,q3,hl,o1,o2,Un]
theorem B2g (H:Hp) (r:Nat) (bs:List Int) (p:Int) (h:B6 H r=some (rd bs p)) (hb:Cz bs) (hp:0≤p) (hp2:p≤1000000000) (hc:Cr bs (p+2) 12=7):Rz H r bs p:=by
 obtain⟨p1,hp1⟩: ∃q,q=p+1:=⟨_,rfl⟩
 obtain⟨p2,hp2'⟩: ∃q,q=p1+1:=⟨_,rfl⟩
 obtain⟨p3,hp3⟩: ∃q,q=p2+1:=⟨_,rfl⟩
 obtain⟨kk,lk,qk⟩:=Sh H r bs p p1 h hb (by omega) (by omega) hp1
 rw[Fb h] at qk
 obtain⟨tt,lt,qt⟩:=Tr H r bs p1 p2 h hb (by omega) (by omega) hp2'
 have qp:=Tq H r bs p2 p3 12 h hb (by omega) (by omega) hp3
 rw[show p2=p+2 by omega] at qp
 rw[hc] at qp
 rw[show p+2=p2 by omega] at qp
 obtain⟨p4,hp4⟩: ∃q,q=p3+1:=⟨_,rfl⟩
 obtain⟨t1,l1,q1⟩:=Jv H r bs p3 p4 [[90,65,68,68],[90,65,68,68],[90,73,78,67,82,66,89],[90,82,65,78,71,69],[90,82,65,78,71,69,66,89,83,67,79,82,69]] h hb (by omega) (by omega) hp4 (by simp) (by simp[*])
 simp only[Bf,List.map_cons,List.map_nil] at q1
 obtain⟨p5,hp5⟩: ∃q,q=p4+1:=⟨_,rfl⟩
 obtain⟨t2,l2,q2⟩:=Biv H r bs p4 p5 h hb (by omega) (by omega) hp5
 obtain⟨p6,hp6⟩: ∃q,q=p5+1:=⟨_,rfl⟩
 obtain⟨t3,l3,q3⟩:=Biv H r bs p5 p6 h hb (by omega) (by omega) hp6
 obtain⟨p7,hp7⟩: ∃q,q=p6+1:=⟨_,rfl⟩
 obtain⟨t4,l4,q4⟩:=Jv H r bs p6 p7 [tt,t3] h hb (by omega) (by omega) hp7 (by simp) (by simp[*])
 simp only[Bf,List.map_cons,List.map_nil] at q4
 refine⟨[t1,[122],t2,t4],p7, ?_,by omega,by omega,by simp,by simp,by simp[*]⟩
 obtain⟨o1,o2,o3⟩:=K1 H (Bu H r (rd bs p7)) (Bq _ _ _) [t1,[122],t2,t4]
 refine Bi (fn:=f81) rfl rfl ?_
 have hl:=Bq H r (rd bs p7)
 simp only[Gk,List.map_cons,List.map_nil,List.length_cons,List.length_nil,Nat.zero_add,Nat.reduceAdd] at o1 o2⊢
 simp[B9,-List.getD_eq_getElem?_getD,-List.map_map,f81,qk,qt,qp,q1,q2,q3,q4,hl,o1,o2,Un]
theorem B2h (H:Hp) (r:Nat) (bs:List Int) (p:Int) (h:B6 H r=some (rd bs p)) (hb:Cz bs) (hp:0≤p) (hp2:p≤1000000000) (hc:Cr bs (p+2) 12=8):Rz H r bs p:=by
 obtain⟨p1,hp1⟩: ∃q,q=p+1:=⟨_,rfl⟩
 obtain⟨p2,hp2'⟩: ∃q,q=p1+1:=⟨_,rfl⟩
 obtain⟨p3,hp3⟩: ∃q,q=p2+1:=⟨_,rfl⟩
 obtain⟨kk,lk,qk⟩:=Sh H r bs p p1 h hb (by omega) (by omega) hp1
 rw[Fb h] at qk
 obtain⟨tt,lt,qt⟩:=Tr H r bs p1 p2 h hb (by omega) (by omega) hp2'
 have qp:=Tq H r bs p2 p3 12 h hb (by omega) (by omega) hp3
 rw[show p2=p+2 by omega] at qp
 rw[hc] at qp
 rw[show p+2=p2 by omega] at qp
 obtain⟨p4,hp4⟩: ∃q,q=p3+1:=⟨_,rfl⟩
 obtain⟨t1,l1,q1⟩:=Jv H r bs p3 p4 [[90,82,69,77],[90,83,67,79,82,69],[90,82,65,78,75],[72,71,69,84],[72,68,69,76]] h hb (by omega) (by omega) hp4 (by simp) (by simp[*])
 simp only[Bf,List.map_cons,List.map_nil] at q1
 obtain⟨p5,hp5⟩: ∃q,q=p4+1:=⟨_,rfl⟩
 obtain⟨t2,l2,q2⟩:=Jv H r bs p4 p5 [[122],[104]] h hb (by omega) (by omega) hp5 (by simp) (by simp[*])
 simp only[Bf,List.map_cons,List.map_nil] at q2
 refine⟨[t1,t2,tt],p5, ?_,by omega,by omega,by simp,by simp,by simp[*]⟩
 obtain⟨o1,o2,o3⟩:=K1 H (Bu H r (rd bs p5)) (Bq _ _ _) [t1,t2,tt]
 refine Bi (fn:=f81) rfl rfl ?_
 have hl:=Bq H r (rd bs p5)
 simp only[Gk,List.map_cons,List.map_nil,List.length_cons,List.length_nil,Nat.zero_add,Nat.reduceAdd] at o1 o2⊢
 simp[B9,-List.getD_eq_getElem?_getD,-List.map_map,f81,qk,qt,qp,q1,q2,hl,o1,o2,Un]
theorem B2i (H:Hp) (r:Nat) (bs:List Int) (p:Int) (h:B6 H r=some (rd bs p)) (hb:Cz bs) (hp:0≤p) (hp2:p≤1000000000) (hc:Cr bs (p+2) 12=9):Rz H r bs p:=by
 obtain⟨p1,hp1⟩: ∃q,q=p+1:=⟨_,rfl⟩
 obtain⟨p2,hp2'⟩: ∃q,q=p1+1:=⟨_,rfl⟩
 obtain⟨p3,hp3⟩: ∃q,q=p2+1:=⟨_,rfl⟩
 obtain⟨kk,lk,qk⟩:=Sh H r bs p p1 h hb (by omega) (by omega) hp1
 rw[Fb h] at qk
 obtain⟨tt,lt,qt⟩:=Tr H r bs p1 p2 h hb (by omega) (by omega) hp2'
 have qp:=Tq H r bs p2 p3 12 h hb (by omega) (by omega) hp3
 rw[show p2=p+2 by omega] at qp
 rw[hc] at qp
 rw[show p+2=p2 by omega] at qp
 obtain⟨p4,hp4⟩: ∃q,q=p3+1:=⟨_,rfl⟩
 obtain⟨t1,l1,q1⟩:=Jv H r bs p3 p4 [[72,83,69,84],[72,83,69,84],[72,73,78,67,82,66,89]] h hb (by omega) (by omega) hp4 (by simp) (by simp[*])
 simp only[Bf,List.map_cons,List.map_nil] at q1
 obtain⟨p5,hp5⟩: ∃q,q=p4+1:=⟨_,rfl⟩
 obtain⟨t2,l2,q2⟩:=Jv H r bs p4 p5 [[97],[98],tt] h hb (by omega) (by omega) hp5 (by simp) (by simp[*])
 simp only[Bf,List.map_cons,List.map_nil] at q2
 obtain⟨p6,hp6⟩: ∃q,q=p5+1:=⟨_,rfl⟩
 obtain⟨t3,l3,q3⟩:=Biv H r bs p5 p6 h hb (by omega) (by omega) hp6
 obtain⟨p7,hp7⟩: ∃q,q=p6+1:=⟨_,rfl⟩
 obtain⟨t4,l4,q4⟩:=Jv H r bs p6 p7 [tt,t3] h hb (by omega) (by omega) hp7 (by simp) (by simp[*])
 simp only[Bf,List.map_cons,List.map_nil] at q4
 refine⟨[t1,[104],t2,t4],p7, ?_,by omega,by omega,by simp,by simp,by simp[*]⟩
 obtain⟨o1,o2,o3⟩:=K1 H (Bu H r (rd bs p7)) (Bq _ _ _) [t1,[104],t2,t4]
 refine Bi (fn:=f81) rfl rfl ?_
 have hl:=Bq H r (rd bs p7)
 simp only[Gk,List.map_cons,List.map_nil,List.length_cons,List.length_nil,Nat.zero_add,Nat.reduceAdd] at o1 o2⊢
 simp[B9,-List.getD_eq_getElem?_getD,-List.map_map,f81,qk,qt,qp,q1,q2,q3,q4,hl,o1,o2,Un]
theorem Byi (H:Hp) (r:Nat) (bs:List Int) (p:Int) (h:B6 H r=some (rd bs p)) (hb:Cz bs) (hp:0≤p) (hp2:p≤1000000000) (hc:Cr bs (p+2) 12=10):Rz H r bs p:=by
 obtain⟨p1,hp1⟩: ∃q,q=p+1:=⟨_,rfl⟩
 obtain⟨p2,hp2'⟩: ∃q,q=p1+1:=⟨_,rfl⟩
 obtain⟨p3,hp3⟩: ∃q,q=p2+1:=⟨_,rfl⟩
 obtain⟨kk,lk,qk⟩:=Sh H r bs p p1 h hb (by omega) (by omega) hp1
 rw[Fb h] at qk
 obtain⟨tt,lt,qt⟩:=Tr H r bs p1 p2 h hb (by omega) (by omega) hp2'
 have qp:=Tq H r bs p2 p3 12 h hb (by omega) (by omega) hp3
 rw[show p2=p+2 by omega] at qp
 rw[hc] at qp
 rw[show p+2=p2 by omega] at qp
 obtain⟨p4,hp4⟩: ∃q,q=p3+1:=⟨_,rfl⟩
 obtain⟨t1,l1,q1⟩:=Jv H r bs p3 p4 [[69,88,80,73,82,69],[69,88,80,73,82,69,65,84],[82,69,78,65,77,69]] h hb (by omega) (by omega) hp4 (by simp) (by simp[*])
 simp only[Bf,List.map_cons,List.map_nil] at q1
 obtain⟨p5,hp5⟩: ∃q,q=p4+1:=⟨_,rfl⟩
 obtain⟨t2,l2,q2⟩:=Jv H r bs p4 p5 [[53],[49],[49,48,48],[107],[108],[107,50],[45,49],[49,48,48,48,48,48,49]] h hb (by omega) (by omega) hp5 (by simp) (by simp[*])
 simp only[Bf,List.map_cons,List.map_nil] at q2
 refine⟨[t1,kk,t2],p5, ?_,by omega,by omega,by simp,by simp,by simp[*]⟩
 obtain⟨o1,o2,o3⟩:=K1 H (Bu H r (rd bs p5)) (Bq _ _ _) [t1,kk,t2]
 refine Bi (fn:=f81) rfl rfl ?_
 have hl:=Bq H r (rd bs p5)
 simp only[Gk,List.map_cons,List.map_nil,List.length_cons,List.length_nil,Nat.zero_add,Nat.reduceAdd] at o1 o2⊢
 simp[B9,-List.getD_eq_getElem?_getD,-List.map_map,f81,qk,qt,qp,q1,q2,hl,o1,o2,Un]
theorem Byj (H:Hp) (r:Nat) (bs:List Int) (p:Int) (h:B6 H r=some (rd bs p)) (hb:Cz bs) (hp:0≤p) (hp2:p≤1000000000) (hc:11≤Cr bs (p+2) 12):Rz H r bs p:=by
 obtain⟨p1,hp1⟩: ∃q,q=p+1:=⟨_,rfl⟩
 obtain⟨p2,hp2'⟩: ∃q,q=p1+1:=⟨_,rfl⟩
 obtain⟨p3,hp3⟩: ∃q,q=p2+1:=⟨_,rfl⟩
 obtain⟨kk,lk,qk⟩:=Sh H r bs p p1 h hb (by omega) (by omega) hp1
 rw[Fb h] at qk
 obtain⟨tt,lt,qt⟩:=Tr H r bs p1 p2 h hb (by omega) (by omega) hp2'
 have qp:=Tq H r bs p2 p3 12 h hb (by omega) (by omega) hp3
 rw[show p2=p+2 by omega] at qp
 obtain⟨_,pm⟩:=Gg bs (p+2) 12 hb (by omega) (by omega)
 have pm:=pm (by omega)
 rw[show Cr bs (p+2) 12=11 by omega] at qp
 rw[show p+2=p2 by omega] at qp
 obtain⟨p4,hp4⟩: ∃q,q=p3+1:=⟨_,rfl⟩
 obtain⟨t1,l1,q1⟩:=Jv H r bs p3 p4 [[68,69,76],[69,88,73,83,84,83],[75,69,89,83],[68,66,83,73,90,69],[70,76,85,83,72],[78,79,78,69],[68,69,76]] h hb (by omega) (by omega) hp4 (by simp) (by simp[*])
 simp only[Bf,List.map_cons,List.map_nil] at q1
 obtain⟨p5,hp5⟩: ∃q,q=p4+1:=⟨_,rfl⟩
 obtain⟨t2,l2,q2⟩:=Jv H r bs p4 p5 [kk,[42],[63],[107,42],[]] h hb (by omega) (by omega) hp5 (by simp) (by simp[*])
 simp only[Bf,List.map_cons,List.map_nil] at q2
 obtain⟨N,p9,nl,pl,q9⟩:=Bte H r bs p5 1 1 rfl ([t1,t2]:List Bm) h hb (by omega) (by omega) (by omega)
 obtain⟨a1,a2,a3,a4,a5,a6⟩:=Zd H (Bu H r (rd bs p9)) (Bq _ _ _) [t1,t2] (Dy bs N (p5+1)) N (Jm bs N (p5+1))
 have tl:=Jm bs N (p5+1)
 refine⟨[t1,t2]++Dy bs N (p5+1),p9, ?_,by omega,by omega,by simp,by simp[tl];omega,fun x hx=> ?_⟩
 ·refine Bi (fn:=f81) rfl rfl ?_
  have sh:=Gs bs N (p5+1)
  clear sh
  generalize Dy bs N (p5+1)=ts at a1 a2 a3 a4 a5 a6 q9 tl⊢
  simp only[List.map_cons,List.map_nil,List.cons_append,List.nil_append,List.length_cons,List.length_nil,Bf,Nat.zero_add,Nat.reduceAdd] at a1 a2 a3 a4 a5 a6 q9⊢
  have rm: (N+2)*16≤Cb:=by unfold Cb;omega
  have rm2: (2+N)*16≤Cb:=by unfold Cb;omega
  have hl:=Bq H r (rd bs p5)
  have aD:=Ua (ts.map D.str)
  have r1: ∀ys:List V,Cm (Bp (Bp (Bu H r (rd bs p9)) (.row 1 1 ys)) (Gk 0 ts)) (Bc H) 1=some (1,ys):=fun ys=>Sn H (Bu H r (rd bs p9)) (Bq _ _ _) 1 ys (Gk 0 ts)
  have hl9:=Bq H r (rd bs p9)
  show _=some (V.slc (Bc H) 0 0 _,Bp (Bu H r (rd bs p9)) (.row 0 1 _))
  simp only[List.length_cons,List.length_nil,List.length_append,tl,Nat.zero_add,Nat.reduceAdd,List.map_cons,List.map_nil,List.cons_append,List.nil_append]
  simp[B9,-List.getD_eq_getElem?_getD,-List.map_map,f81,qk,qt,qp,q1,q2,hl,hl9,q9,a1,a2,a3,a5,a6,rm,rm2,tl,aD,r1,Un]
  omega
 ·rcases List.mem_append.1 hx with hx|hx
  ·simp only[List.mem_cons,List.not_mem_nil,or_false] at hx
   rcases hx with rfl|rfl<;>assumption
  ·exact Gs bs N (p5+1) x hx
theorem Byz (H:Hp) (r:Nat) (bs:List Int) (p:Int) (h:B6 H r=some (rd bs p)) (hb:Cz bs) (hp:0≤p) (hp2:p≤1000000000):Rz H r bs p:=by
 obtain⟨k0,k1⟩:=Gg bs (p+2) 12 hb (by omega) (by omega)
 have k1:=k1 (by omega)
 have c:Cr bs (p+2) 12=0∨Cr bs (p+2) 12=1∨Cr bs (p+2) 12=2∨Cr bs (p+2) 12=3∨Cr bs (p+2) 12=4∨Cr bs (p+2) 12=5∨Cr bs (p+2) 12=6∨Cr bs (p+2) 12=7∨Cr bs (p+2) 12=8∨Cr bs (p+2) 12=9∨Cr bs (p+2) 12=10∨11≤Cr bs (p+2) 12:=by omega
 rcases c with c|c|c|c|c|c|c|c|c|c|c|c
 ·exact B19 H r bs p h hb hp hp2 c
 ·exact B2a H r bs p h hb hp hp2 c
 ·exact B2b H r bs p h hb hp hp2 c
 ·exact B2c H r bs p h hb hp hp2 c
 ·exact B2d H r bs p h hb hp hp2 c
 ·exact B2e H r bs p h hb hp hp2 c
 ·exact B2f H r bs p h hb hp hp2 c
 ·exact B2g H r bs p h hb hp hp2 c
 ·exact B2h H r bs p h hb hp hp2 c
 ·exact B2i H r bs p h hb hp hp2 c
 ·exact Byi H r bs p h hb hp hp2 c
 ·exact Byj H r bs p h hb hp hp2 c
def rh (H:Hp) (r:Nat) (bs:List Int) (q:Int) (l:Hp):Hp:=ap (Bu H r (rd bs q)) l
section
variable (H l:Hp) (r:Nat) (bs:List Int) (q:Int)
theorem Dd (o:Ev.Obj):Bp (rh H r bs q l) o=rh H r bs q ((l:List Ev.Obj)++[o]):=Bgs _ _ _
theorem D7:Bc (rh H r bs q l)=Bc H+l.length:=by unfold rh;rw[Ub,Bq]
theorem D3 (k:Nat):B6 (rh H r bs q l) (Bc H+k)=B6 l k:=by
 have:=K9 (Bu H r (rd bs q)) l k
 rwa[Bq] at this
theorem Dl:B6 (rh H r bs q l) (Bc H)=B6 l 0:=D3 H l r bs q 0
theorem D8 (k:Nat) (o:Ev.Obj):Bu (rh H r bs q l) (Bc H+k) o=rh H r bs q (Bu l k o):=by
 have:=Qc (Bu H r (rd bs q)) l k o
 rwa[Bq] at this
theorem Dm (o:Ev.Obj):Bu (rh H r bs q l) (Bc H) o=rh H r bs q (Bu l 0 o):=D8 H l r bs q 0 o
theorem Dn:Ck (rh H r bs q l) (Bc H)=Bu H r (rd bs q):=by
 have:=Lm (Bu H r (rd bs q)) l
 rwa[Bq] at this
theorem C7 (k:Nat):Ck (rh H r bs q l) (Bc H+k)=rh H r bs q (l.take k):=by
 have:=Uc (Bu H r (rd bs q)) l k
 rwa[Bq] at this
theorem Bcq (hr:r<Bc H):B6 (rh H r bs q l) r=some (rd bs q):=by
 unfold rh
 rw[Pi,ap,List.getElem?_append_left (by simpa[Bq,Bc] using(show r<Bc (Bu H r (rd bs q)) by rw[Bq];exact hr)),←Pi]
 exact Cd _ hr
theorem Baf (hr:r<Bc H) (q':Int):Bu (rh H r bs q l) r (rd bs q')=rh H r bs q' l:=by
 unfold rh
 have:Bc (Bu H r (rd bs q))=(Bu H r (rd bs q)).length:=rfl
 rw[Q8,ap,ap,List.set_append_left _ _ (by rw[←this,Bq];exact hr),←Q8,J1]
theorem D6 (k g i n:Nat):Tp (Bc H) (rh H r bs q l) (.slc (Bc H+k) g i n)=(match B6 l k with
  |some (.row g' e xs)=>bif Nat.beq g' g then(if i+n≤xs.length then(match F2 (fz (Bc H) 7 (rh H r bs q l)) ((xs.drop i).take n) with|some ys=>some (.d (.vals e ys)) |none=>none) else none) else none
  |_=>none):=by
 have:=Beg (Bu H r (rd bs q)) l k g i n
 rwa[Bq] at this
theorem Dk (g i n:Nat):Tp (Bc H) (rh H r bs q l) (.slc (Bc H) g i n)=(match B6 l 0 with
  |some (.row g' e xs)=>bif Nat.beq g' g then(if i+n≤xs.length then(match F2 (fz (Bc H) 7 (rh H r bs q l)) ((xs.drop i).take n) with|some ys=>some (.d (.vals e ys)) |none=>none) else none) else none
  |_=>none):=D6 H l r bs q 0 g i n
theorem Btp (m k g e n:Nat) (ds:List D) (hm:m≤k) (h:B6 l k=some (.row g e (ds.map V.d))) (hn:n=ds.length):Tp (Bc H+m) (rh H r bs q l) (.slc (Bc H+k) g 0 n)=some (.d (.vals e ds)):=by
 have hr:Cm (rh H r bs q l) (Bc H+k) g=some (e,ds.map V.d):=by
  unfold Cm
  rw[D3,h]
  simp
 have hmm:F2 (fz (Bc H+m) 7 (rh H r bs q l)) (((ds.map V.d).drop 0).take n)=some ds:=by
  rw[List.drop_zero,List.take_of_length_le (by rw[List.length_map];omega)]
  exact Lu (Pe ds)
 have:=Se (n:=Bc H+m) (d:=7) (r:=Bc H+k) (g:=g) (i:=0) (k:=n) (by omega) hr (by rw[List.length_map];omega) hmm
 show(if Bc H+k<Bc H+m then _ else(match fz (Bc H+m) Mw _ (.slc (Bc H+k) g 0 n) with|some x=>some (V.d x) |none=>none))=_
 rw[if_neg (by omega),show Mw=7+1 from rfl,this]
theorem Bmq {p:Int} (h:B6 H r=some (rd bs p)):H=rh H r bs p []:=by
 unfold rh
 rw[Bsq,Fb h]
theorem Gj (l':Hp):ap (rh H r bs q l) l'=rh H r bs q ((l:List Ev.Obj)++l'):=by
 unfold rh;rw[Bkv]
end
theorem Bae {H l:Hp} {r:Nat} {bs:List Int} {q q':Int} {k:Nat} {args:List V} {v:V} (hr:r<Bc H) (h:ev R k args (rh H r bs q l)=some (v,Bu (rh H r bs q l) r (rd bs q'))):ev R k args (rh H r bs q l)=some (v,rh H r bs q' l):=by
 rw[h,Baf H l r bs q hr]
theorem J8 {H l:Hp} {r:Nat} {bs:List Int} {q:Int} (n:Int) (hr:r<Bc H) (hb:Cz bs) (h0:0≤q) (h1:q≤1000000000000):ev R 54 [.ptr r 0 0 0, .d (.int .i64 n)] (rh H r bs q l)=some (.d (.int .i64 (Cr bs q n)),rh H r bs (q+1) l):=
 Bae hr (Ble _ r bs q n (Bcq H l r bs q hr) hb h0 h1)
theorem Bsg {H l:Hp} {r:Nat} {bs:List Int} {q:Int} (xs:List Bm) (hr:r<Bc H) (hb:Cz bs) (h0:0≤q) (h1:q≤1000000000000) (hx:0<xs.length):ev R 29 [.ptr r 0 0 0, .d (Bf xs)] (rh H r bs q l)=some (.d (.str (ofV bs q xs)),rh H r bs (q+1) l):=
 Bae hr (Bs6 _ r bs q xs (Bcq H l r bs q hr) hb h0 h1 hx)
abbrev Blt (ns:List Int):D:= .vals 1 (ns.map (D.int .i64))
def Bbw (bs:List Int) (q:Int) (ns:List Int):Int:=ns.getD (Cr bs q ns.length).toNat 0
theorem Wm (bs:List Int) (q:Int) (ns:List Int) (hb:Cz bs) (h0:0≤q) (h1:q≤1000000000000) (hn:0<ns.length):Bbw bs q ns∈ns:=by
 unfold Bbw
 have:=Gg bs q ns.length hb h0 h1
 have h2:=this.2 (by omega)
 have hi: (Cr bs q ns.length).toNat<ns.length:=by omega
 rw[List.getD_eq_getElem?_getD,List.getElem?_eq_getElem hi]
 exact List.getElem_mem hi
theorem Bys (H:Hp) (r:Nat) (bs:List Int) (p:Int) (ns:List Int) (h:B6 H r=some (rd bs p)) (hb:Cz bs) (hp:0≤p) (hp2:p≤1000000000000) (hx:0<ns.length) (hx2:ns.length≤1000000):ev R 33 [.ptr r 0 0 0, .d (Blt ns)] H=some (.d (.int .i64 (Bbw bs p ns)),Bu H r (rd bs (p+1))):=by
 refine Bi (fn:=f33) rfl rfl ?_
 have e:=Ble H r bs p ns.length h hb hp hp2
 obtain⟨k0,k1⟩:=Gg bs p ns.length hb hp hp2
 have k1:=k1 (by omega)
 unfold Bbw
 generalize Cr bs p ns.length=z at*
 obtain⟨k,rfl⟩:=Int.eq_ofNat_of_zero_le k0
 have hk:k<ns.length:=by omega
 have g: (ns.map (D.int .i64)).getD k .nilp= .int .i64 (ns.getD k 0):=by simp[List.getD_eq_getElem?_getD,hk]
 simp[B9,-List.getD_eq_getElem?_getD,-List.map_map,f33,e,k0,k1,hk,g,Jk]
theorem Bfo {H l:Hp} {r:Nat} {bs:List Int} {q:Int} (ns:List Int) (hr:r<Bc H) (hb:Cz bs) (h0:0≤q) (h1:q≤1000000000000) (hx:0<ns.length) (hx2:ns.length≤1000000):ev R 33 [.ptr r 0 0 0, .d (Blt ns)] (rh H r bs q l)=some (.d (.int .i64 (Bbw bs q ns)),rh H r bs (q+1) l):=
 Bae hr (Bys _ r bs q ns (Bcq H l r bs q hr) hb h0 h1 hx hx2)
theorem Bmr {H l:Hp} {r:Nat} {bs:List Int} {q:Int} (hr:r<Bc H) (hb:Cz bs) (h0:0≤q) (h1:q≤1000000000):
  ∃ (ts:List Bm) (q':Int),ev R 81 [.ptr r 0 0 0] (rh H r bs q l)=some (.slc (Bc H+l.length) 0 0 ts.length,rh H r bs q' ((l:List Ev.Obj)++[.row 0 1 ((ts.map D.str).map V.d)]))∧q≤q'∧q'≤q+20∧1≤ts.length∧ts.length≤8∧∀x∈ts,x.length≤40:=by
 obtain⟨ts,q',he,a,b,c,d,f⟩:=Byz _ r bs q (Bcq H l r bs q hr) hb h0 h1
 refine⟨ts,q', ?_,a,b,c,d,f⟩
 rw[he,Baf H l r bs q hr,Dd,D7]
 rfl
end Go.Proofs.YtjdmiodinhlchaaGreat.Code

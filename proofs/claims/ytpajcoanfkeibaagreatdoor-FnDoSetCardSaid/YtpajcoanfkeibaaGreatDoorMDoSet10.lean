/- Lemmas (several texts in one). -/
import Derived.Test.YtpajcoanfkeibaaGreatDoorMDoSet6
import Derived.Test.YtpajcoanfkeibaaGreatDoorMDoSet9
set_option maxRecDepth 100000
set_option linter.unusedSimpArgs false
set_option linter.unusedVariables false
set_option maxHeartbeats 2000000
namespace Go.Proofs.YtpajcoanfkeibaaGreatDoor.Code
open Go Go.Ev Go.Proofs
theorem Gg {H:Hp} {r:Nat} {o:Ev.Obj} (h:Ce H r=some o):Bw H r o=H:=by
 induction H generalizing r with
 |nil=>rfl
 |cons a H ih=>
  cases r with
  |zero=>simp only[Ce,Option.some.injEq] at h;subst h;rfl
  |succ r=>exact congrArg (List.cons a) (ih h)
theorem Kn (bs:List Int): ∀ (n:Nat) (p:Int),∀x∈F9 bs n p,x.length≤40
 |0,p=>by simp[F9]
 |n+1,p=>by
  intro x hx
  simp only[F9,List.mem_cons] at hx
  rcases hx with rfl|hx
  ·exact Be2 bs p
  ·exact Kn bs n (p+1) x hx
theorem Mj (H:Hp) (r:Nat) (bs:List Int) (q q':Int) (xs:List Bq) {o:Ev.Obj} (h:Ce H r=some o) (hb:Dg bs) (hq:0≤q) (hq2:q≤100000000000) (hq':q'=q+1) (hx:0<xs.length) (hm: ∀x∈xs,x.length≤40):
  ∃t:Bq,t.length≤40∧ev R 45 [.ptr r 0 0 0, .d (Bf xs)] (Bw H r (rd bs q))=some (.d (.str t),Bw H r (rd bs q')):=by
 subst hq'
 have e:=Bwh (Bw H r (rd bs q)) r bs q xs (Cn _ (Ff h)) hb hq (by omega) hx
 rw[K9] at e
 exact⟨_,Ui bs q xs 40 hm,e⟩
theorem Bae (H:Hp) (r:Nat) (bs:List Int) (q q':Int) {o:Ev.Obj} (h:Ce H r=some o) (hb:Dg bs) (hq:0≤q) (hq2:q≤100000000000) (hq':q'=q+1):
  ∃t:Bq,t.length≤40∧ev R 160 [.ptr r 0 0 0] (Bw H r (rd bs q))=some (.d (.str t),Bw H r (rd bs q')):=by
 subst hq'
 have e:=Byz (Bw H r (rd bs q)) r bs q (Cn _ (Ff h)) hb hq (by omega)
 rw[K9] at e
 exact⟨_,Be2 bs q,e⟩
theorem Bac (H:Hp) (r:Nat) (bs:List Int) (q q' n:Int) {o:Ev.Obj} (h:Ce H r=some o) (hb:Dg bs) (hq:0≤q) (hq2:q≤100000000000) (hq':q'=q+1):
  ev R 43 [.ptr r 0 0 0, .d (.int .i64 n)] (Bw H r (rd bs q))=some (.d (.int .i64 (Cy bs q n)),Bw H r (rd bs q')):=by
 subst hq'
 have e:=Brx (Bw H r (rd bs q)) r bs q n (Cn _ (Ff h)) hb hq (by omega)
 rwa[K9] at e
theorem Bad (H:Hp) (r:Nat) (bs:List Int) (q q':Int) {o:Ev.Obj} (h:Ce H r=some o) (hb:Dg bs) (hq:0≤q) (hq2:q≤100000000000) (hq':q'=q+1):
  ∃t:Bq,t.length≤40∧ev R 22 [.ptr r 0 0 0] (Bw H r (rd bs q))=some (.d (.str t),Bw H r (rd bs q')):=by
 obtain⟨t,l,e⟩:=Mj H r bs q q' [[107],[108],[115],[122],[104],[107,50],[108]] h hb hq hq2 hq' (by simp) (by simp)
 refine⟨t,l,Bh (fn:=f22) rfl rfl ?_⟩
 have hl:=J2 (Bw H r (rd bs q'))
 rw[Br] at hl
 have hl2:=Br H r (rd bs q)
 simp only[Bf,List.map_cons,List.map_nil] at e
 simp[Cm,-List.getD_eq_getElem?_getD,-List.map_map,f22,e,hl,hl2]
theorem Bo1 (H:Hp) (r:Nat) (bs:List Int) (q q':Int) {o:Ev.Obj} (h:Ce H r=some o) (hb:Dg bs) (hq:0≤q) (hq2:q≤100000000000) (hq':q'=q+1):
  ∃t:Bq,t.length≤40∧ev R 161 [.ptr r 0 0 0] (Bw H r (rd bs q))=some (.d (.str t),Bw H r (rd bs q')):=by
 obtain⟨t,l,e⟩:=Mj H r bs q q' [[48],[49],[45,49],[50],[45,50],[53],[49,48,48],[45,49,48,48],[49,48,48,48,48,48,48,48,48,48],[120]] h hb hq hq2 hq' (by simp) (by simp)
 refine⟨t,l,Bh (fn:=f161) rfl rfl ?_⟩
 have hl:=J2 (Bw H r (rd bs q'))
 rw[Br] at hl
 have hl2:=Br H r (rd bs q)
 simp only[Bf,List.map_cons,List.map_nil] at e
 simp[Cm,-List.getD_eq_getElem?_getD,-List.map_map,f161,e,hl,hl2]
theorem B0p (H:Hp) (r:Nat) (bs:List Int) (q:Int) (mi:Int) (most:Nat) (hmi:mi=most) (L:List Bq) {o:Ev.Obj} (h:Ce H r=some o) (hb:Dg bs) (hq:0≤q) (hq2:q≤10000000000) (hm:most≤3):
  ∃ (N:Nat) (p9:Int),N≤most∧(q≤p9∧p9≤q+5)∧ev R 162 [.ptr r 0 0 0, .d (.int .i64 mi)] (Bu (Bw H r (rd bs q)) (.row 0 1 ((L.map D.str).map V.d)))=some (.slc (Be H+1) 0 0 N,Bu (Bu (Bw H r (rd bs p9)) (.row 0 1 ((L.map D.str).map V.d))) (Kg 0 (F9 bs N (q+1)))):=by
 subst hmi
 have hr:=Ff h
 have hg:Ce (Bu (Bw H r (rd bs q)) (.row 0 1 ((L.map D.str).map V.d))) r=some (rd bs q):=by
  rw[Fg _ (by rw[Br];exact hr),Cn _ hr]
 have e:=B2g _ r bs q most hg hb hq (by omega) (by omega)
 obtain⟨k0,k1⟩:=Jj bs q ((most:Int)+1) hb hq (by omega)
 have k1:=k1 (by omega)
 obtain⟨N,hN⟩: ∃N,(Cy bs q ((most:Int)+1)).toNat=N:=⟨_,rfl⟩
 rw[hN,Cg,Br,Pb (by rw[Br];exact hr),K9] at e
 exact⟨N,q+1+N,by omega,by omega,e⟩
theorem Be8 (H X:Hp) (hl:Be X=Be H) (ds ts:List Bq) (N:Nat) (hN:ts.length=N):
  Cz (Bu (Bu X (.row 0 1 ((ds.map D.str).map V.d))) (Kg 0 ts)) (Be H) 0=some (1,(ds.map D.str).map V.d)∧
  R9 (Bu (Bu X (.row 0 1 ((ds.map D.str).map V.d))) (Kg 0 ts)) (.slc (Be H+1) 0 0 N)=some (1,(ts.map D.str).map V.d,false)∧
  Bw (Bu (Bu X (.row 0 1 ((ds.map D.str).map V.d))) (Kg 0 ts)) (Be H) (.row 1 1 ((ds.map D.str).map V.d++(ts.map D.str).map V.d))=Bu (Bu X (.row 1 1 ((ds.map D.str).map V.d++(ts.map D.str).map V.d))) (Kg 0 ts)∧
  Td (Be H) (Bu (Bu X (.row 1 1 ((ds.map D.str).map V.d++(ts.map D.str).map V.d))) (Kg 0 ts)) (.slc (Be H) 1 0 (ds.length+N))=some (.d (.vals 1 (ds.map D.str++ts.map D.str)))∧
  C8 (Bu (Bu X (.row 1 1 ((ds.map D.str).map V.d++(ts.map D.str).map V.d))) (Kg 0 ts)) (Be H)=X∧
  ((ts.map D.str).map V.d).all (R4 (Be H) (Be H))=true:=by
 subst hN
 rw[←hl]
 refine⟨?_, ?_, ?_, ?_, ?_, ?_⟩
 ·simp only[Cz,Fg _ (show Be X<Be (Bu X (.row 0 1 ((ds.map D.str).map V.d))) by rw[Cg];omega),Dz]
  rfl
 ·have hr:Cz (Bu (Bu X (.row 0 1 ((ds.map D.str).map V.d))) (Kg 0 ts)) (Be X+1) 0=some (1,(ts.map D.str).map V.d):=Bct (by rw[Cg])
  simp only[R9,hr]
  rw[if_pos (by simp),List.drop_zero,List.take_of_length_le (by simp)]
 ·rw[Pb (by rw[Cg];omega),Q6]
 ·have hr:Cz (Bu (Bu X (.row 1 1 ((ds.map D.str).map V.d++(ts.map D.str).map V.d))) (Kg 0 ts)) (Be X) 1=some (1,(ds.map D.str).map V.d++(ts.map D.str).map V.d):=by
   simp only[Cz,Fg _ (show Be X<Be (Bu X (.row 1 1 ((ds.map D.str).map V.d++(ts.map D.str).map V.d))) by rw[Cg];omega),Dz]
   rfl
  have h:=Yy (n:=Be X) (d:=7) (i:=0) (k:=ds.length+ts.length) (by omega) hr (by simp) (ys:=ds.map D.str++ts.map D.str) (by
   rw[List.drop_zero,List.take_of_length_le (by simp),←List.map_append];exact Bb2 _)
  show(if Be X<Be X then _ else(match fz (Be X) Nl _ (.slc (Be X) 1 0 (ds.length+ts.length)) with|some x=>some (V.d x) |none=>none))=_
  rw[if_neg (by omega),show Nl=7+1 from rfl,h]
 ·simp[C8,Bu,Be]
 ·simp[R4,Ko]
theorem Pe (H X:Hp) (hl:Be X=Be H) (ds:List Bq):
  Cz (Bu X (.row 0 1 ((ds.map D.str).map V.d))) (Be H) 0=some (1,(ds.map D.str).map V.d)∧C8 (Bu X (.row 0 1 ((ds.map D.str).map V.d))) (Be H)=X∧True:=by
 rw[←hl]
 exact⟨C9 _ _ _ _,Fq _ _,trivial⟩
theorem Y9 (H X:Hp) (hl:Be X=Be H) (g:Nat) (ys:List V) (o:Ev.Obj):Cz (Bu (Bu X (.row g 1 ys)) o) (Be H) g=some (1,ys):=by
 rw[←hl]
 simp only[Cz,Fg _ (show Be X<Be (Bu X (.row g 1 ys)) by rw[Cg];omega),Dz]
 simp
def Yf (H:Hp) (r:Nat) (bs:List Int) (p:Int):Prop:=
 ∃ (ts:List Bq) (p':Int),ev R 64 [.ptr r 0 0 0] H=some (.slc (Be H) 0 0 ts.length,Bu (Bw H r (rd bs p')) (Kg 0 ts))∧p≤p'∧p'≤p+20∧1≤ts.length∧ts.length≤8∧∀x∈ts,x.length≤40
theorem Ca9 (H:Hp) (r:Nat) (bs:List Int) (p:Int) (h:Ce H r=some (rd bs p)) (hb:Dg bs) (hp:0≤p) (hp2:p≤1000000000) (hc:Cy bs (p+2) 12=0):Yf H r bs p:=by
 obtain⟨p1,hp1⟩: ∃q,q=p+1:=⟨_,rfl⟩
 obtain⟨p2,hp2'⟩: ∃q,q=p1+1:=⟨_,rfl⟩
 obtain⟨p3,hp3⟩: ∃q,q=p2+1:=⟨_,rfl⟩
 obtain⟨kk,lk,qk⟩:=Bad H r bs p p1 h hb (by omega) (by omega) hp1
 rw[Gg h] at qk
 obtain⟨tt,lt,qt⟩:=Bae H r bs p1 p2 h hb (by omega) (by omega) hp2'
 have qp:=Bac H r bs p2 p3 12 h hb (by omega) (by omega) hp3
 rw[show p2=p+2 by omega] at qp
 rw[hc] at qp
 rw[show p+2=p2 by omega] at qp
 obtain⟨p4,hp4⟩: ∃q,q=p3+1:=⟨_,rfl⟩
 obtain⟨t1,l1,q1⟩:=Mj H r bs p3 p4 [[71,69,84],[83,84,82,76,69,78],[73,78,67,82],[76,80,79,80],[82,80,79,80],[76,76,69,78],[83,77,69,77,66,69,82,83],[83,67,65,82,68],[90,67,65,82,68],[72,71,69,84,65,76,76],[72,76,69,78],[84,89,80,69],[84,84,76],[80,69,82,83,73,83,84]] h hb (by omega) (by omega) hp4 (by simp) (by simp[*])
 simp only[Bf,List.map_cons,List.map_nil] at q1
 refine⟨[t1,kk],p4, ?_,by omega,by omega,by simp,by simp,by simp[*]⟩
 obtain⟨o1,o2,o3⟩:=Pe H (Bw H r (rd bs p4)) (Br _ _ _) [t1,kk]
 refine Bh (fn:=f64) rfl rfl ?_
 have hl:=Br H r (rd bs p4)
 simp only[Kg,List.map_cons,List.map_nil,List.length_cons,List.length_nil,Nat.zero_add,Nat.reduceAdd] at o1 o2⊢
 simp[Cm,-List.getD_eq_getElem?_getD,-List.map_map,f64,qk,qt,qp,q1,hl,o1,o2,Ux]
theorem Cba (H:Hp) (r:Nat) (bs:List Int) (p:Int) (h:Ce H r=some (rd bs p)) (hb:Dg bs) (hp:0≤p) (hp2:p≤1000000000) (hc:Cy bs (p+2) 12=1):Yf H r bs p:=by
 obtain⟨p1,hp1⟩: ∃q,q=p+1:=⟨_,rfl⟩
 obtain⟨p2,hp2'⟩: ∃q,q=p1+1:=⟨_,rfl⟩
 obtain⟨p3,hp3⟩: ∃q,q=p2+1:=⟨_,rfl⟩
 obtain⟨kk,lk,qk⟩:=Bad H r bs p p1 h hb (by omega) (by omega) hp1
 rw[Gg h] at qk
 obtain⟨tt,lt,qt⟩:=Bae H r bs p1 p2 h hb (by omega) (by omega) hp2'
 have qp:=Bac H r bs p2 p3 12 h hb (by omega) (by omega) hp3
 rw[show p2=p+2 by omega] at qp
 rw[hc] at qp
 rw[show p+2=p2 by omega] at qp
 obtain⟨p4,hp4⟩: ∃q,q=p3+1:=⟨_,rfl⟩
 obtain⟨t1,l1,q1⟩:=Mj H r bs p3 p4 [[107],[107,50]] h hb (by omega) (by omega) hp4 (by simp) (by simp[*])
 simp only[Bf,List.map_cons,List.map_nil] at q1
 refine⟨[[83,69,84],t1,tt],p4, ?_,by omega,by omega,by simp,by simp,by simp[*]⟩
 obtain⟨o1,o2,o3⟩:=Pe H (Bw H r (rd bs p4)) (Br _ _ _) [[83,69,84],t1,tt]
 refine Bh (fn:=f64) rfl rfl ?_
 have hl:=Br H r (rd bs p4)
 simp only[Kg,List.map_cons,List.map_nil,List.length_cons,List.length_nil,Nat.zero_add,Nat.reduceAdd] at o1 o2⊢
 simp[Cm,-List.getD_eq_getElem?_getD,-List.map_map,f64,qk,qt,qp,q1,hl,o1,o2,Ux]
theorem Cbb (H:Hp) (r:Nat) (bs:List Int) (p:Int) (h:Ce H r=some (rd bs p)) (hb:Dg bs) (hp:0≤p) (hp2:p≤1000000000) (hc:Cy bs (p+2) 12=2):Yf H r bs p:=by
 obtain⟨p1,hp1⟩: ∃q,q=p+1:=⟨_,rfl⟩
 obtain⟨p2,hp2'⟩: ∃q,q=p1+1:=⟨_,rfl⟩
 obtain⟨p3,hp3⟩: ∃q,q=p2+1:=⟨_,rfl⟩
 obtain⟨kk,lk,qk⟩:=Bad H r bs p p1 h hb (by omega) (by omega) hp1
 rw[Gg h] at qk
 obtain⟨tt,lt,qt⟩:=Bae H r bs p1 p2 h hb (by omega) (by omega) hp2'
 have qp:=Bac H r bs p2 p3 12 h hb (by omega) (by omega) hp3
 rw[show p2=p+2 by omega] at qp
 rw[hc] at qp
 rw[show p+2=p2 by omega] at qp
 obtain⟨p4,hp4⟩: ∃q,q=p3+1:=⟨_,rfl⟩
 obtain⟨t1,l1,q1⟩:=Mj H r bs p3 p4 [[65,80,80,69,78,68],[73,78,67,82,66,89]] h hb (by omega) (by omega) hp4 (by simp) (by simp[*])
 simp only[Bf,List.map_cons,List.map_nil] at q1
 obtain⟨p5,hp5⟩: ∃q,q=p4+1:=⟨_,rfl⟩
 obtain⟨t2,l2,q2⟩:=Mj H r bs p4 p5 [[107],[107,50]] h hb (by omega) (by omega) hp5 (by simp) (by simp[*])
 simp only[Bf,List.map_cons,List.map_nil] at q2
 obtain⟨p6,hp6⟩: ∃q,q=p5+1:=⟨_,rfl⟩
 obtain⟨t3,l3,q3⟩:=Bo1 H r bs p5 p6 h hb (by omega) (by omega) hp6
 obtain⟨p7,hp7⟩: ∃q,q=p6+1:=⟨_,rfl⟩
 obtain⟨t4,l4,q4⟩:=Mj H r bs p6 p7 [tt,t3] h hb (by omega) (by omega) hp7 (by simp) (by simp[*])
 simp only[Bf,List.map_cons,List.map_nil] at q4
 refine⟨[t1,t2,t4],p7, ?_,by omega,by omega,by simp,by simp,by simp[*]⟩
 obtain⟨o1,o2,o3⟩:=Pe H (Bw H r (rd bs p7)) (Br _ _ _) [t1,t2,t4]
 refine Bh (fn:=f64) rfl rfl ?_
 have hl:=Br H r (rd bs p7)
 simp only[Kg,List.map_cons,List.map_nil,List.length_cons,List.length_nil,Nat.zero_add,Nat.reduceAdd] at o1 o2⊢
 simp[Cm,-List.getD_eq_getElem?_getD,-List.map_map,f64,qk,qt,qp,q1,q2,q3,q4,hl,o1,o2,Ux]
theorem Cbc (H:Hp) (r:Nat) (bs:List Int) (p:Int) (h:Ce H r=some (rd bs p)) (hb:Dg bs) (hp:0≤p) (hp2:p≤1000000000) (hc:Cy bs (p+2) 12=3):Yf H r bs p:=by
 obtain⟨p1,hp1⟩: ∃q,q=p+1:=⟨_,rfl⟩
 obtain⟨p2,hp2'⟩: ∃q,q=p1+1:=⟨_,rfl⟩
 obtain⟨p3,hp3⟩: ∃q,q=p2+1:=⟨_,rfl⟩
 obtain⟨kk,lk,qk⟩:=Bad H r bs p p1 h hb (by omega) (by omega) hp1
 rw[Gg h] at qk
 obtain⟨tt,lt,qt⟩:=Bae H r bs p1 p2 h hb (by omega) (by omega) hp2'
 have qp:=Bac H r bs p2 p3 12 h hb (by omega) (by omega) hp3
 rw[show p2=p+2 by omega] at qp
 rw[hc] at qp
 rw[show p+2=p2 by omega] at qp
 obtain⟨p4,hp4⟩: ∃q,q=p3+1:=⟨_,rfl⟩
 obtain⟨t1,l1,q1⟩:=Mj H r bs p3 p4 [[76,80,85,83,72],[82,80,85,83,72]] h hb (by omega) (by omega) hp4 (by simp) (by simp[*])
 simp only[Bf,List.map_cons,List.map_nil] at q1
 obtain⟨p5,hp5⟩: ∃q,q=p4+1:=⟨_,rfl⟩
 obtain⟨t2,l2,q2⟩:=Mj H r bs p4 p5 [[108],[108],[107]] h hb (by omega) (by omega) hp5 (by simp) (by simp[*])
 simp only[Bf,List.map_cons,List.map_nil] at q2
 obtain⟨N,p9,nl,pl,q9⟩:=B0p H r bs p5 3 3 rfl ([t1,t2,tt]:List Bq) h hb (by omega) (by omega) (by omega)
 obtain⟨a1,a2,a3,a4,a5,a6⟩:=Be8 H (Bw H r (rd bs p9)) (Br _ _ _) [t1,t2,tt] (F9 bs N (p5+1)) N (Lt bs N (p5+1))
 have tl:=Lt bs N (p5+1)
 refine⟨[t1,t2,tt]++F9 bs N (p5+1),p9, ?_,by omega,by omega,by simp,by simp[tl];omega,fun x hx=> ?_⟩
 ·refine Bh (fn:=f64) rfl rfl ?_
  have sh:=Kn bs N (p5+1)
  clear sh
  generalize F9 bs N (p5+1)=ts at a1 a2 a3 a4 a5 a6 q9 tl⊢
  simp only[List.map_cons,List.map_nil,List.cons_append,List.nil_append,List.length_cons,List.length_nil,Bf,Nat.zero_add,Nat.reduceAdd] at a1 a2 a3 a4 a5 a6 q9⊢
  have rm: (N+3)*16≤Cq:=by unfold Cq;omega
  have rm2: (3+N)*16≤Cq:=by unfold Cq;omega
  have hl:=Br H r (rd bs p5)
  have aD:=Baz (ts.map D.str)
  have r1: ∀ys:List V,Cz (Bu (Bu (Bw H r (rd bs p9)) (.row 1 1 ys)) (Kg 0 ts)) (Be H) 1=some (1,ys):=fun ys=>Y9 H (Bw H r (rd bs p9)) (Br _ _ _) 1 ys (Kg 0 ts)
  have hl9:=Br H r (rd bs p9)
  show _=some (V.slc (Be H) 0 0 _,Bu (Bw H r (rd bs p9)) (.row 0 1 _))
  simp only[List.length_cons,List.length_nil,List.length_append,tl,Nat.zero_add,Nat.reduceAdd,List.map_cons,List.map_nil,List.cons_append,List.nil_append]
  simp[Cm,-List.getD_eq_getElem?_getD,-List.map_map,f64,qk,qt,qp,q1,q2,hl,hl9,q9,a1,a2,a3,a5,a6,rm,rm2,tl,aD,r1,Ux]
  omega
 ·rcases List.mem_append.1 hx with hx|hx
  ·simp only[List.mem_cons,List.not_mem_nil,or_false] at hx
   rcases hx with rfl|rfl|rfl<;>assumption
  ·exact Kn bs N (p5+1) x hx
theorem Cbd (H:Hp) (r:Nat) (bs:List Int) (p:Int) (h:Ce H r=some (rd bs p)) (hb:Dg bs) (hp:0≤p) (hp2:p≤1000000000) (hc:Cy bs (p+2) 12=4):Yf H r bs p:=by
 obtain⟨p1,hp1⟩: ∃q,q=p+1:=⟨_,rfl⟩
 obtain⟨p2,hp2'⟩: ∃q,q=p1+1:=⟨_,rfl⟩
 obtain⟨p3,hp3⟩: ∃q,q=p2+1:=⟨_,rfl⟩
 obtain⟨kk,lk,qk⟩:=Bad H r bs p p1 h hb (by omega) (by omega) hp1
 rw[Gg h] at qk
 obtain⟨tt,lt,qt⟩:=Bae H r bs p1 p2 h hb (by omega) (by omega) hp2'
 have qp:=Bac H r bs p2 p3 12 h hb (by omega) (by omega) hp3
 rw[show p2=p+2 by omega] at qp
 rw[hc] at qp
 rw[show p+2=p2 by omega] at qp
 obtain⟨p4,hp4⟩: ∃q,q=p3+1:=⟨_,rfl⟩
 obtain⟨t1,l1,q1⟩:=Mj H r bs p3 p4 [[76,82,65,78,71,69],[76,84,82,73,77],[76,83,69,84],[76,82,69,77],[71,69,84,82,65,78,71,69]] h hb (by omega) (by omega) hp4 (by simp) (by simp[*])
 simp only[Bf,List.map_cons,List.map_nil] at q1
 obtain⟨p5,hp5⟩: ∃q,q=p4+1:=⟨_,rfl⟩
 obtain⟨t2,l2,q2⟩:=Mj H r bs p4 p5 [[108],[108],[107]] h hb (by omega) (by omega) hp5 (by simp) (by simp[*])
 simp only[Bf,List.map_cons,List.map_nil] at q2
 obtain⟨p6,hp6⟩: ∃q,q=p5+1:=⟨_,rfl⟩
 obtain⟨t3,l3,q3⟩:=Bo1 H r bs p5 p6 h hb (by omega) (by omega) hp6
 obtain⟨p7,hp7⟩: ∃q,q=p6+1:=⟨_,rfl⟩
 obtain⟨t4,l4,q4⟩:=Bo1 H r bs p6 p7 h hb (by omega) (by omega) hp7
 obtain⟨p8,hp8⟩: ∃q,q=p7+1:=⟨_,rfl⟩
 obtain⟨t5,l5,q5⟩:=Mj H r bs p7 p8 [t4,tt] h hb (by omega) (by omega) hp8 (by simp) (by simp[*])
 simp only[Bf,List.map_cons,List.map_nil] at q5
 refine⟨[t1,t2,t3,t5],p8, ?_,by omega,by omega,by simp,by simp,by simp[*]⟩
 obtain⟨o1,o2,o3⟩:=Pe H (Bw H r (rd bs p8)) (Br _ _ _) [t1,t2,t3,t5]
 refine Bh (fn:=f64) rfl rfl ?_
 have hl:=Br H r (rd bs p8)
 simp only[Kg,List.map_cons,List.map_nil,List.length_cons,List.length_nil,Nat.zero_add,Nat.reduceAdd] at o1 o2⊢
 simp[Cm,-List.getD_eq_getElem?_getD,-List.map_map,f64,qk,qt,qp,q1,q2,q3,q4,q5,hl,o1,o2,Ux]
theorem Cbe (H:Hp) (r:Nat) (bs:List Int) (p:Int) (h:Ce H r=some (rd bs p)) (hb:Dg bs) (hp:0≤p) (hp2:p≤1000000000) (hc:Cy bs (p+2) 12=5):Yf H r bs p:=by
 obtain⟨p1,hp1⟩: ∃q,q=p+1:=⟨_,rfl⟩
 obtain⟨p2,hp2'⟩: ∃q,q=p1+1:=⟨_,rfl⟩
 obtain⟨p3,hp3⟩: ∃q,q=p2+1:=⟨_,rfl⟩
 obtain⟨kk,lk,qk⟩:=Bad H r bs p p1 h hb (by omega) (by omega) hp1
 rw[Gg h] at qk
 obtain⟨tt,lt,qt⟩:=Bae H r bs p1 p2 h hb (by omega) (by omega) hp2'
 have qp:=Bac H r bs p2 p3 12 h hb (by omega) (by omega) hp3
 rw[show p2=p+2 by omega] at qp
 rw[hc] at qp
 rw[show p+2=p2 by omega] at qp
 obtain⟨p4,hp4⟩: ∃q,q=p3+1:=⟨_,rfl⟩
 obtain⟨t1,l1,q1⟩:=Mj H r bs p3 p4 [[83,65,68,68],[83,65,68,68],[83,82,69,77]] h hb (by omega) (by omega) hp4 (by simp) (by simp[*])
 simp only[Bf,List.map_cons,List.map_nil] at q1
 obtain⟨p5,hp5⟩: ∃q,q=p4+1:=⟨_,rfl⟩
 obtain⟨t2,l2,q2⟩:=Mj H r bs p4 p5 [[115],[115,50]] h hb (by omega) (by omega) hp5 (by simp) (by simp[*])
 simp only[Bf,List.map_cons,List.map_nil] at q2
 obtain⟨N,p9,nl,pl,q9⟩:=B0p H r bs p5 2 2 rfl ([t1,t2,tt]:List Bq) h hb (by omega) (by omega) (by omega)
 obtain⟨a1,a2,a3,a4,a5,a6⟩:=Be8 H (Bw H r (rd bs p9)) (Br _ _ _) [t1,t2,tt] (F9 bs N (p5+1)) N (Lt bs N (p5+1))
 have tl:=Lt bs N (p5+1)
 refine⟨[t1,t2,tt]++F9 bs N (p5+1),p9, ?_,by omega,by omega,by simp,by simp[tl];omega,fun x hx=> ?_⟩
 ·refine Bh (fn:=f64) rfl rfl ?_
  have sh:=Kn bs N (p5+1)
  clear sh
  generalize F9 bs N (p5+1)=ts at a1 a2 a3 a4 a5 a6 q9 tl⊢
  simp only[List.map_cons,List.map_nil,List.cons_append,List.nil_append,List.length_cons,List.length_nil,Bf,Nat.zero_add,Nat.reduceAdd] at a1 a2 a3 a4 a5 a6 q9⊢
  have rm: (N+3)*16≤Cq:=by unfold Cq;omega
  have rm2: (3+N)*16≤Cq:=by unfold Cq;omega
  have hl:=Br H r (rd bs p5)
  have aD:=Baz (ts.map D.str)
  have r1: ∀ys:List V,Cz (Bu (Bu (Bw H r (rd bs p9)) (.row 1 1 ys)) (Kg 0 ts)) (Be H) 1=some (1,ys):=fun ys=>Y9 H (Bw H r (rd bs p9)) (Br _ _ _) 1 ys (Kg 0 ts)
  have hl9:=Br H r (rd bs p9)
  show _=some (V.slc (Be H) 0 0 _,Bu (Bw H r (rd bs p9)) (.row 0 1 _))
  simp only[List.length_cons,List.length_nil,List.length_append,tl,Nat.zero_add,Nat.reduceAdd,List.map_cons,List.map_nil,List.cons_append,List.nil_append]
  simp[Cm,-List.getD_eq_getElem?_getD,-List.map_map,f64,qk,qt,qp,q1,q2,hl,hl9,q9,a1,a2,a3,a5,a6,rm,rm2,tl,aD,r1,Ux]
  omega
 ·rcases List.mem_append.1 hx with hx|hx
  ·simp only[List.mem_cons,List.not_mem_nil,or_false] at hx
   rcases hx with rfl|rfl|rfl<;>assumption
  ·exact Kn bs N (p5+1) x hx
theorem Cbf (H:Hp) (r:Nat) (bs:List Int) (p:Int) (h:Ce H r=some (rd bs p)) (hb:Dg bs) (hp:0≤p) (hp2:p≤1000000000) (hc:Cy bs (p+2) 12=6):Yf H r bs p:=by
 obtain⟨p1,hp1⟩: ∃q,q=p+1:=⟨_,rfl⟩
 obtain⟨p2,hp2'⟩: ∃q,q=p1+1:=⟨_,rfl⟩
 obtain⟨p3,hp3⟩: ∃q,q=p2+1:=⟨_,rfl⟩
 obtain⟨kk,lk,qk⟩:=Bad H r bs p p1 h hb (by omega) (by omega) hp1
 rw[Gg h] at qk
 obtain⟨tt,lt,qt⟩:=Bae H r bs p1 p2 h hb (by omega) (by omega) hp2'
 have qp:=Bac H r bs p2 p3 12 h hb (by omega) (by omega) hp3
 rw[show p2=p+2 by omega] at qp
 rw[hc] at qp
 rw[show p+2=p2 by omega] at qp
 obtain⟨p4,hp4⟩: ∃q,q=p3+1:=⟨_,rfl⟩
 obtain⟨t1,l1,q1⟩:=Mj H r bs p3 p4 [[83,73,83,77,69,77,66,69,82],[83,73,78,84,69,82],[83,85,78,73,79,78],[83,68,73,70,70]] h hb (by omega) (by omega) hp4 (by simp) (by simp[*])
 simp only[Bf,List.map_cons,List.map_nil] at q1
 obtain⟨p5,hp5⟩: ∃q,q=p4+1:=⟨_,rfl⟩
 obtain⟨t2,l2,q2⟩:=Mj H r bs p4 p5 [[115],[115,50]] h hb (by omega) (by omega) hp5 (by simp) (by simp[*])
 simp only[Bf,List.map_cons,List.map_nil] at q2
 obtain⟨p6,hp6⟩: ∃q,q=p5+1:=⟨_,rfl⟩
 obtain⟨t3,l3,q3⟩:=Mj H r bs p5 p6 [[115],[115,50],tt] h hb (by omega) (by omega) hp6 (by simp) (by simp[*])
 simp only[Bf,List.map_cons,List.map_nil] at q3
 refine⟨[t1,t2,t3],p6, ?_,by omega,by omega,by simp,by simp,by simp[*]⟩
 obtain⟨o1,o2,o3⟩:=Pe H (Bw H r (rd bs p6)) (Br _ _ _) [t1,t2,t3]
 refine Bh (fn:=f64) rfl rfl ?_
 have hl:=Br H r (rd bs p6)
 simp only[Kg,List.map_cons,List.map_nil,List.length_cons,List.length_nil,Nat.zero_add,Nat.reduceAdd] at o1 o2⊢
 simp[Cm,-List.getD_eq_getElem?_getD,-List.map_map,f64,qk,qt,qp,q1,q2,q3,hl,o1,o2,Ux]
theorem Cbg (H:Hp) (r:Nat) (bs:List Int) (p:Int) (h:Ce H r=some (rd bs p)) (hb:Dg bs) (hp:0≤p) (hp2:p≤1000000000) (hc:Cy bs (p+2) 12=7):Yf H r bs p:=by
 obtain⟨p1,hp1⟩: ∃q,q=p+1:=⟨_,rfl⟩
 obtain⟨p2,hp2'⟩: ∃q,q=p1+1:=⟨_,rfl⟩
 obtain⟨p3,hp3⟩: ∃q,q=p2+1:=⟨_,rfl⟩
 obtain⟨kk,lk,qk⟩:=Bad H r bs p p1 h hb (by omega) (by omega) hp1
 rw[Gg h] at qk
 obtain⟨tt,lt,qt⟩:=Bae H r bs p1 p2 h hb (by omega) (by omega) hp2'
 have qp:=Bac H r bs p2 p3 12 h hb (by omega) (by omega) hp3
 rw[show p2=p+2 by omega] at qp
 rw[hc] at qp
 rw[show p+2=p2 by omega] at qp
 obtain⟨p4,hp4⟩: ∃q,q=p3+1:=⟨_,rfl⟩
 obtain⟨t1,l1,q1⟩:=Mj H r bs p3 p4 [[90,65,68,68],[90,65,68,68],[90,73,78,67,82,66,89],[90,82,65,78,71,69],[90,82,65,78,71,69,66,89,83,67,79,82,69]] h hb (by omega) (by omega) hp4 (by simp) (by simp[*])
 simp only[Bf,List.map_cons,List.map_nil] at q1
 obtain⟨p5,hp5⟩: ∃q,q=p4+1:=⟨_,rfl⟩
 obtain⟨t2,l2,q2⟩:=Bo1 H r bs p4 p5 h hb (by omega) (by omega) hp5
 obtain⟨p6,hp6⟩: ∃q,q=p5+1:=⟨_,rfl⟩
 obtain⟨t3,l3,q3⟩:=Bo1 H r bs p5 p6 h hb (by omega) (by omega) hp6
 obtain⟨p7,hp7⟩: ∃q,q=p6+1:=⟨_,rfl⟩
 obtain⟨t4,l4,q4⟩:=Mj H r bs p6 p7 [tt,t3] h hb (by omega) (by omega) hp7 (by simp) (by simp[*])
 simp only[Bf,List.map_cons,List.map_nil] at q4
 refine⟨[t1,[122],t2,t4],p7, ?_,by omega,by omega,by simp,by simp,by simp[*]⟩
 obtain⟨o1,o2,o3⟩:=Pe H (Bw H r (rd bs p7)) (Br _ _ _) [t1,[122],t2,t4]
 refine Bh (fn:=f64) rfl rfl ?_
 have hl:=Br H r (rd bs p7)
 simp only[Kg,List.map_cons,List.map_nil,List.length_cons,List.length_nil,Nat.zero_add,Nat.reduceAdd] at o1 o2⊢
 simp[Cm,-List.getD_eq_getElem?_getD,-List.map_map,f64,qk,qt,qp,q1,q2,q3,q4,hl,o1,o2,Ux]
theorem Cbh (H:Hp) (r:Nat) (bs:List Int) (p:Int) (h:Ce H r=some (rd bs p)) (hb:Dg bs) (hp:0≤p) (hp2:p≤1000000000) (hc:Cy bs (p+2) 12=8):Yf H r bs p:=by
 obtain⟨p1,hp1⟩: ∃q,q=p+1:=⟨_,rfl⟩
 obtain⟨p2,hp2'⟩: ∃q,q=p1+1:=⟨_,rfl⟩
 obtain⟨p3,hp3⟩: ∃q,q=p2+1:=⟨_,rfl⟩
 obtain⟨kk,lk,qk⟩:=Bad H r bs p p1 h hb (by omega) (by omega) hp1
 rw[Gg h] at qk
 obtain⟨tt,lt,qt⟩:=Bae H r bs p1 p2 h hb (by omega) (by omega) hp2'
 have qp:=Bac H r bs p2 p3 12 h hb (by omega) (by omega) hp3
 rw[show p2=p+2 by omega] at qp
 rw[hc] at qp
 rw[show p+2=p2 by omega] at qp
 obtain⟨p4,hp4⟩: ∃q,q=p3+1:=⟨_,rfl⟩
 obtain⟨t1,l1,q1⟩:=Mj H r bs p3 p4 [[90,82,69,77],[90,83,67,79,82,69],[90,82,65,78,75],[72,71,69,84],[72,68,69,76]] h hb (by omega) (by omega) hp4 (by simp) (by simp[*])
 simp only[Bf,List.map_cons,List.map_nil] at q1
 obtain⟨p5,hp5⟩: ∃q,q=p4+1:=⟨_,rfl⟩
 obtain⟨t2,l2,q2⟩:=Mj H r bs p4 p5 [[122],[104]] h hb (by omega) (by omega) hp5 (by simp) (by simp[*])
 simp only[Bf,List.map_cons,List.map_nil] at q2
 refine⟨[t1,t2,tt],p5, ?_,by omega,by omega,by simp,by simp,by simp[*]⟩
 obtain⟨o1,o2,o3⟩:=Pe H (Bw H r (rd bs p5)) (Br _ _ _) [t1,t2,tt]
 refine Bh (fn:=f64) rfl rfl ?_
 have hl:=Br H r (rd bs p5)
 simp only[Kg,List.map_cons,List.map_nil,List.length_cons,List.length_nil,Nat.zero_add,Nat.reduceAdd] at o1 o2⊢
 simp[Cm,-List.getD_eq_getElem?_getD,-List.map_map,f64,qk,qt,qp,q1,q2,hl,o1,o2,Ux]
theorem Cbi (H:Hp) (r:Nat) (bs:List Int) (p:Int) (h:Ce H r=some (rd bs p)) (hb:Dg bs) (hp:0≤p) (hp2:p≤1000000000) (hc:Cy bs (p+2) 12=9):Yf H r bs p:=by
 obtain⟨p1,hp1⟩: ∃q,q=p+1:=⟨_,rfl⟩
 obtain⟨p2,hp2'⟩: ∃q,q=p1+1:=⟨_,rfl⟩
 obtain⟨p3,hp3⟩: ∃q,q=p2+1:=⟨_,rfl⟩
 obtain⟨kk,lk,qk⟩:=Bad H r bs p p1 h hb (by omega) (by omega) hp1
 rw[Gg h] at qk
 obtain⟨tt,lt,qt⟩:=Bae H r bs p1 p2 h hb (by omega) (by omega) hp2'
 have qp:=Bac H r bs p2 p3 12 h hb (by omega) (by omega) hp3
 rw[show p2=p+2 by omega] at qp
 rw[hc] at qp
 rw[show p+2=p2 by omega] at qp
 obtain⟨p4,hp4⟩: ∃q,q=p3+1:=⟨_,rfl⟩
 obtain⟨t1,l1,q1⟩:=Mj H r bs p3 p4 [[72,83,69,84],[72,83,69,84],[72,73,78,67,82,66,89]] h hb (by omega) (by omega) hp4 (by simp) (by simp[*])
 simp only[Bf,List.map_cons,List.map_nil] at q1
 obtain⟨p5,hp5⟩: ∃q,q=p4+1:=⟨_,rfl⟩
 obtain⟨t2,l2,q2⟩:=Mj H r bs p4 p5 [[97],[98],tt] h hb (by omega) (by omega) hp5 (by simp) (by simp[*])
 simp only[Bf,List.map_cons,List.map_nil] at q2
 obtain⟨p6,hp6⟩: ∃q,q=p5+1:=⟨_,rfl⟩
 obtain⟨t3,l3,q3⟩:=Bo1 H r bs p5 p6 h hb (by omega) (by omega) hp6
 obtain⟨p7,hp7⟩: ∃q,q=p6+1:=⟨_,rfl⟩
 obtain⟨t4,l4,q4⟩:=Mj H r bs p6 p7 [tt,t3] h hb (by omega) (by omega) hp7 (by simp) (by simp[*])
 simp only[Bf,List.map_cons,List.map_nil] at q4
 refine⟨[t1,[104],t2,t4],p7, ?_,by omega,by omega,by simp,by simp,by simp[*]⟩
 obtain⟨o1,o2,o3⟩:=Pe H (Bw H r (rd bs p7)) (Br _ _ _) [t1,[104],t2,t4]
 refine Bh (fn:=f64) rfl rfl ?_
 have hl:=Br H r (rd bs p7)
 simp only[Kg,List.map_cons,List.map_nil,List.length_cons,List.length_nil,Nat.zero_add,Nat.reduceAdd] at o1 o2⊢
 simp[Cm,-List.getD_eq_getElem?_getD,-List.map_map,f64,qk,qt,qp,q1,q2,q3,q4,hl,o1,o2,Ux]
theorem B68 (H:Hp) (r:Nat) (bs:List Int) (p:Int) (h:Ce H r=some (rd bs p)) (hb:Dg bs) (hp:0≤p) (hp2:p≤1000000000) (hc:Cy bs (p+2) 12=10):Yf H r bs p:=by
 obtain⟨p1,hp1⟩: ∃q,q=p+1:=⟨_,rfl⟩
 obtain⟨p2,hp2'⟩: ∃q,q=p1+1:=⟨_,rfl⟩
 obtain⟨p3,hp3⟩: ∃q,q=p2+1:=⟨_,rfl⟩
 obtain⟨kk,lk,qk⟩:=Bad H r bs p p1 h hb (by omega) (by omega) hp1
 rw[Gg h] at qk
 obtain⟨tt,lt,qt⟩:=Bae H r bs p1 p2 h hb (by omega) (by omega) hp2'
 have qp:=Bac H r bs p2 p3 12 h hb (by omega) (by omega) hp3
 rw[show p2=p+2 by omega] at qp
 rw[hc] at qp
 rw[show p+2=p2 by omega] at qp
 obtain⟨p4,hp4⟩: ∃q,q=p3+1:=⟨_,rfl⟩
 obtain⟨t1,l1,q1⟩:=Mj H r bs p3 p4 [[69,88,80,73,82,69],[69,88,80,73,82,69,65,84],[82,69,78,65,77,69]] h hb (by omega) (by omega) hp4 (by simp) (by simp[*])
 simp only[Bf,List.map_cons,List.map_nil] at q1
 obtain⟨p5,hp5⟩: ∃q,q=p4+1:=⟨_,rfl⟩
 obtain⟨t2,l2,q2⟩:=Mj H r bs p4 p5 [[53],[49],[49,48,48],[107],[108],[107,50],[45,49],[49,48,48,48,48,48,49]] h hb (by omega) (by omega) hp5 (by simp) (by simp[*])
 simp only[Bf,List.map_cons,List.map_nil] at q2
 refine⟨[t1,kk,t2],p5, ?_,by omega,by omega,by simp,by simp,by simp[*]⟩
 obtain⟨o1,o2,o3⟩:=Pe H (Bw H r (rd bs p5)) (Br _ _ _) [t1,kk,t2]
 refine Bh (fn:=f64) rfl rfl ?_
 have hl:=Br H r (rd bs p5)
 simp only[Kg,List.map_cons,List.map_nil,List.length_cons,List.length_nil,Nat.zero_add,Nat.reduceAdd] at o1 o2⊢
 simp[Cm,-List.getD_eq_getElem?_getD,-List.map_map,f64,qk,qt,qp,q1,q2,hl,o1,o2,Ux]
theorem B69 (H:Hp) (r:Nat) (bs:List Int) (p:Int) (h:Ce H r=some (rd bs p)) (hb:Dg bs) (hp:0≤p) (hp2:p≤1000000000) (hc:11≤Cy bs (p+2) 12):Yf H r bs p:=by
 obtain⟨p1,hp1⟩: ∃q,q=p+1:=⟨_,rfl⟩
 obtain⟨p2,hp2'⟩: ∃q,q=p1+1:=⟨_,rfl⟩
 obtain⟨p3,hp3⟩: ∃q,q=p2+1:=⟨_,rfl⟩
 obtain⟨kk,lk,qk⟩:=Bad H r bs p p1 h hb (by omega) (by omega) hp1
 rw[Gg h] at qk
 obtain⟨tt,lt,qt⟩:=Bae H r bs p1 p2 h hb (by omega) (by omega) hp2'
 have qp:=Bac H r bs p2 p3 12 h hb (by omega) (by omega) hp3
 rw[show p2=p+2 by omega] at qp
 obtain⟨_,pm⟩:=Jj bs (p+2) 12 hb (by omega) (by omega)
 have pm:=pm (by omega)
 rw[show Cy bs (p+2) 12=11 by omega] at qp
 rw[show p+2=p2 by omega] at qp
 obtain⟨p4,hp4⟩: ∃q,q=p3+1:=⟨_,rfl⟩
 obtain⟨t1,l1,q1⟩:=Mj H r bs p3 p4 [[68,69,76],[69,88,73,83,84,83],[75,69,89,83],[68,66,83,73,90,69],[70,76,85,83,72],[78,79,78,69],[68,69,76]] h hb (by omega) (by omega) hp4 (by simp) (by simp[*])
 simp only[Bf,List.map_cons,List.map_nil] at q1
 obtain⟨p5,hp5⟩: ∃q,q=p4+1:=⟨_,rfl⟩
 obtain⟨t2,l2,q2⟩:=Mj H r bs p4 p5 [kk,[42],[63],[107,42],[]] h hb (by omega) (by omega) hp5 (by simp) (by simp[*])
 simp only[Bf,List.map_cons,List.map_nil] at q2
 obtain⟨N,p9,nl,pl,q9⟩:=B0p H r bs p5 1 1 rfl ([t1,t2]:List Bq) h hb (by omega) (by omega) (by omega)
 obtain⟨a1,a2,a3,a4,a5,a6⟩:=Be8 H (Bw H r (rd bs p9)) (Br _ _ _) [t1,t2] (F9 bs N (p5+1)) N (Lt bs N (p5+1))
 have tl:=Lt bs N (p5+1)
 refine⟨[t1,t2]++F9 bs N (p5+1),p9, ?_,by omega,by omega,by simp,by simp[tl];omega,fun x hx=> ?_⟩
 ·refine Bh (fn:=f64) rfl rfl ?_
  have sh:=Kn bs N (p5+1)
  clear sh
  generalize F9 bs N (p5+1)=ts at a1 a2 a3 a4 a5 a6 q9 tl⊢
  simp only[List.map_cons,List.map_nil,List.cons_append,List.nil_append,List.length_cons,List.length_nil,Bf,Nat.zero_add,Nat.reduceAdd] at a1 a2 a3 a4 a5 a6 q9⊢
  have rm: (N+2)*16≤Cq:=by unfold Cq;omega
  have rm2: (2+N)*16≤Cq:=by unfold Cq;omega
  have hl:=Br H r (rd bs p5)
  have aD:=Baz (ts.map D.str)
  have r1: ∀ys:List V,Cz (Bu (Bu (Bw H r (rd bs p9)) (.row 1 1 ys)) (Kg 0 ts)) (Be H) 1=some (1,ys):=fun ys=>Y9 H (Bw H r (rd bs p9)) (Br _ _ _) 1 ys (Kg 0 ts)
  have hl9:=Br H r (rd bs p9)
  show _=some (V.slc (Be H) 0 0 _,Bu (Bw H r (rd bs p9)) (.row 0 1 _))
  simp only[List.length_cons,List.length_nil,List.length_append,tl,Nat.zero_add,Nat.reduceAdd,List.map_cons,List.map_nil,List.cons_append,List.nil_append]
  simp[Cm,-List.getD_eq_getElem?_getD,-List.map_map,f64,qk,qt,qp,q1,q2,hl,hl9,q9,a1,a2,a3,a5,a6,rm,rm2,tl,aD,r1,Ux]
  omega
 ·rcases List.mem_append.1 hx with hx|hx
  ·simp only[List.mem_cons,List.not_mem_nil,or_false] at hx
   rcases hx with rfl|rfl<;>assumption
  ·exact Kn bs N (p5+1) x hx
theorem B7x (H:Hp) (r:Nat) (bs:List Int) (p:Int) (h:Ce H r=some (rd bs p)) (hb:Dg bs) (hp:0≤p) (hp2:p≤1000000000):Yf H r bs p:=by
 obtain⟨k0,k1⟩:=Jj bs (p+2) 12 hb (by omega) (by omega)
 have k1:=k1 (by omega)
 have c:Cy bs (p+2) 12=0∨Cy bs (p+2) 12=1∨Cy bs (p+2) 12=2∨Cy bs (p+2) 12=3∨Cy bs (p+2) 12=4∨Cy bs (p+2) 12=5∨Cy bs (p+2) 12=6∨Cy bs (p+2) 12=7∨Cy bs (p+2) 12=8∨Cy bs (p+2) 12=9∨Cy bs (p+2) 12=10∨11≤Cy bs (p+2) 12:=by omega
 rcases c with c|c|c|c|c|c|c|c|c|c|c|c
 ·exact Ca9 H r bs p h hb hp hp2 c
 ·exact Cba H r bs p h hb hp hp2 c
 ·exact Cbb H r bs p h hb hp hp2 c
 ·exact Cbc H r bs p h hb hp hp2 c
 ·exact Cbd H r bs p h hb hp hp2 c
 ·exact Cbe H r bs p h hb hp hp2 c
 ·exact Cbf H r bs p h hb hp hp2 c
 ·exact Cbg H r bs p h hb hp hp2 c
 ·exact Cbh H r bs p h hb hp hp2 c
 ·exact Cbi H r bs p h hb hp hp2 c
 ·exact B68 H r bs p h hb hp hp2 c
 ·exact B69 H r bs p h hb hp hp2 c
def oh (H:Hp) (r:Nat) (o:Ev.Obj) (l:Hp):Hp:=ap (Bw H r o) l
section
variable (H l:Hp) (r:Nat) (o:Ev.Obj)
theorem Ja (x:Ev.Obj):Bu (oh H r o l) x=oh H r o ((l:List Ev.Obj)++[x]):=Be6 _ _ _
theorem Ka:Be (oh H r o l)=Be H+l.length:=by unfold oh;rw[Yh,Br]
theorem J9 (k:Nat):Ce (oh H r o l) (Be H+k)=Ce l k:=by
 have:=Mm (Bw H r o) l k
 rwa[Br] at this
theorem G9:Ce (oh H r o l) (Be H)=Ce l 0:=J9 H l r o 0
theorem Kb (k:Nat) (x:Ev.Obj):Bw (oh H r o l) (Be H+k) x=oh H r o (Bw l k x):=by
 have:=Rn (Bw H r o) l k x
 rwa[Br] at this
theorem Jb (x:Ev.Obj):Bw (oh H r o l) (Be H) x=oh H r o (Bw l 0 x):=Kb H l r o 0 x
theorem Jc:C8 (oh H r o l) (Be H)=Bw H r o:=by
 have:=L6 (Bw H r o) l
 rwa[Br] at this
theorem Gh (k:Nat):C8 (oh H r o l) (Be H+k)=oh H r o (l.take k):=by
 have:=Wz (Bw H r o) l k
 rwa[Br] at this
theorem Zp (hr:r<Be H):Ce (oh H r o l) r=some o:=by
 unfold oh
 rw[Qf,ap,List.getElem?_append_left (by simpa[Br,Be] using(show r<Be (Bw H r o) by rw[Br];exact hr)),←Qf]
 exact Cn _ hr
theorem Baq (hr:r<Be H) (o':Ev.Obj):Bw (oh H r o l) r o'=oh H r o' l:=by
 unfold oh
 have:Be (Bw H r o)=(Bw H r o).length:=rfl
 rw[Rx,ap,ap,List.set_append_left _ _ (by rw[←this,Br];exact hr),←Rx,K9]
theorem J8 (k g i n:Nat):Td (Be H) (oh H r o l) (.slc (Be H+k) g i n)=(match Ce l k with
  |some (.row g' e xs)=>bif Nat.beq g' g then(if i+n≤xs.length then(match Gs (fz (Be H) 7 (oh H r o l)) ((xs.drop i).take n) with|some ys=>some (.d (.vals e ys)) |none=>none) else none) else none
  |_=>none):=by
 have:=Bfn (Bw H r o) l k g i n
 rwa[Br] at this
theorem G8 (g i n:Nat):Td (Be H) (oh H r o l) (.slc (Be H) g i n)=(match Ce l 0 with
  |some (.row g' e xs)=>bif Nat.beq g' g then(if i+n≤xs.length then(match Gs (fz (Be H) 7 (oh H r o l)) ((xs.drop i).take n) with|some ys=>some (.d (.vals e ys)) |none=>none) else none) else none
  |_=>none):=J8 H l r o 0 g i n
theorem Bsl (h:Ce H r=some o):H=oh H r o []:=by
 unfold oh
 rw[Brc,Gg h]
theorem Md (l':Hp):ap (oh H r o l) l'=oh H r o ((l:List Ev.Obj)++l'):=by
 unfold oh;rw[Bmt]
end
end Go.Proofs.YtpajcoanfkeibaaGreatDoor.Code

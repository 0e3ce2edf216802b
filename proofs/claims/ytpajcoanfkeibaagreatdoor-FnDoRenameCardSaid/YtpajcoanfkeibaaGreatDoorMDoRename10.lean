/- Lemmas (several texts in one). -/
import Derived.Test.YtpajcoanfkeibaaGreatDoorMDoRename6
import Derived.Test.YtpajcoanfkeibaaGreatDoorMDoRename9
set_option maxRecDepth 100000
set_option linter.unusedSimpArgs false
set_option linter.unusedVariables false
set_option maxHeartbeats 2000000
namespace Go.Proofs.YtpajcoanfkeibaaGreatDoor.Code
open Go Go.Ev Go.Proofs
theorem Ga {H:Hp} {r:Nat} {o:Ev.Obj} (h:Cf H r=some o):Bz H r o=H:=by
 induction H generalizing r with
 |nil=>rfl
 |cons a H ih=>
  cases r with
  |zero=>simp only[Cf,Option.some.injEq] at h;subst h;rfl
  |succ r=>exact congrArg (List.cons a) (ih h)
theorem Ka (bs:List Int): ∀ (n:Nat) (p:Int),∀x∈F3 bs n p,x.length≤40
 |0,p=>by simp[F3]
 |n+1,p=>by
  intro x hx
  simp only[F3,List.mem_cons] at hx
  rcases hx with rfl|hx
  ·exact Bem bs p
  ·exact Ka bs n (p+1) x hx
theorem Lv (H:Hp) (r:Nat) (bs:List Int) (q q':Int) (xs:List Bq) {o:Ev.Obj} (h:Cf H r=some o) (hb:Dk bs) (hq:0≤q) (hq2:q≤100000000000) (hq':q'=q+1) (hx:0<xs.length) (hm: ∀x∈xs,x.length≤40):
  ∃t:Bq,t.length≤40∧ev R 45 [.ptr r 0 0 0, .d (Bf xs)] (Bz H r (rd bs q))=some (.d (.str t),Bz H r (rd bs q')):=by
 subst hq'
 have e:=Bvw (Bz H r (rd bs q)) r bs q xs (Co _ (D6 h)) hb hq (by omega) hx
 rw[Ky] at e
 exact⟨_,Bai bs q xs 40 hm,e⟩
theorem Z8 (H:Hp) (r:Nat) (bs:List Int) (q q':Int) {o:Ev.Obj} (h:Cf H r=some o) (hb:Dk bs) (hq:0≤q) (hq2:q≤100000000000) (hq':q'=q+1):
  ∃t:Bq,t.length≤40∧ev R 160 [.ptr r 0 0 0] (Bz H r (rd bs q))=some (.d (.str t),Bz H r (rd bs q')):=by
 subst hq'
 have e:=Byd (Bz H r (rd bs q)) r bs q (Co _ (D6 h)) hb hq (by omega)
 rw[Ky] at e
 exact⟨_,Bem bs q,e⟩
theorem Z6 (H:Hp) (r:Nat) (bs:List Int) (q q' n:Int) {o:Ev.Obj} (h:Cf H r=some o) (hb:Dk bs) (hq:0≤q) (hq2:q≤100000000000) (hq':q'=q+1):
  ev R 43 [.ptr r 0 0 0, .d (.int .i64 n)] (Bz H r (rd bs q))=some (.d (.int .i64 (Dc bs q n)),Bz H r (rd bs q')):=by
 subst hq'
 have e:=Brf (Bz H r (rd bs q)) r bs q n (Co _ (D6 h)) hb hq (by omega)
 rwa[Ky] at e
theorem Z7 (H:Hp) (r:Nat) (bs:List Int) (q q':Int) {o:Ev.Obj} (h:Cf H r=some o) (hb:Dk bs) (hq:0≤q) (hq2:q≤100000000000) (hq':q'=q+1):
  ∃t:Bq,t.length≤40∧ev R 22 [.ptr r 0 0 0] (Bz H r (rd bs q))=some (.d (.str t),Bz H r (rd bs q')):=by
 obtain⟨t,l,e⟩:=Lv H r bs q q' [[107],[108],[115],[122],[104],[107,50],[108]] h hb hq hq2 hq' (by simp) (by simp)
 refine⟨t,l,Bh (fn:=f22) rfl rfl ?_⟩
 have hl:=Jq (Bz H r (rd bs q'))
 rw[Br] at hl
 have hl2:=Br H r (rd bs q)
 simp only[Bf,List.map_cons,List.map_nil] at e
 simp[Cn,-List.getD_eq_getElem?_getD,-List.map_map,f22,e,hl,hl2]
theorem Bol (H:Hp) (r:Nat) (bs:List Int) (q q':Int) {o:Ev.Obj} (h:Cf H r=some o) (hb:Dk bs) (hq:0≤q) (hq2:q≤100000000000) (hq':q'=q+1):
  ∃t:Bq,t.length≤40∧ev R 161 [.ptr r 0 0 0] (Bz H r (rd bs q))=some (.d (.str t),Bz H r (rd bs q')):=by
 obtain⟨t,l,e⟩:=Lv H r bs q q' [[48],[49],[45,49],[50],[45,50],[53],[49,48,48],[45,49,48,48],[49,48,48,48,48,48,48,48,48,48],[120]] h hb hq hq2 hq' (by simp) (by simp)
 refine⟨t,l,Bh (fn:=f161) rfl rfl ?_⟩
 have hl:=Jq (Bz H r (rd bs q'))
 rw[Br] at hl
 have hl2:=Br H r (rd bs q)
 simp only[Bf,List.map_cons,List.map_nil] at e
 simp[Cn,-List.getD_eq_getElem?_getD,-List.map_map,f161,e,hl,hl2]
theorem Bzv (H:Hp) (r:Nat) (bs:List Int) (q:Int) (mi:Int) (most:Nat) (hmi:mi=most) (L:List Bq) {o:Ev.Obj} (h:Cf H r=some o) (hb:Dk bs) (hq:0≤q) (hq2:q≤10000000000) (hm:most≤3):
  ∃ (N:Nat) (p9:Int),N≤most∧(q≤p9∧p9≤q+5)∧ev R 162 [.ptr r 0 0 0, .d (.int .i64 mi)] (Bt (Bz H r (rd bs q)) (.row 0 1 ((L.map D.str).map V.d)))=some (.slc (Bc H+1) 0 0 N,Bt (Bt (Bz H r (rd bs p9)) (.row 0 1 ((L.map D.str).map V.d))) (J3 0 (F3 bs N (q+1)))):=by
 subst hmi
 have hr:=D6 h
 have hg:Cf (Bt (Bz H r (rd bs q)) (.row 0 1 ((L.map D.str).map V.d))) r=some (rd bs q):=by
  rw[Dz _ (by rw[Br];exact hr),Co _ hr]
 have e:=B1a _ r bs q most hg hb hq (by omega) (by omega)
 obtain⟨k0,k1⟩:=Jj bs q ((most:Int)+1) hb hq (by omega)
 have k1:=k1 (by omega)
 obtain⟨N,hN⟩: ∃N,(Dc bs q ((most:Int)+1)).toNat=N:=⟨_,rfl⟩
 rw[hN,Ch,Br,Np (by rw[Br];exact hr),Ky] at e
 exact⟨N,q+1+N,by omega,by omega,e⟩
theorem Bes (H X:Hp) (hl:Bc X=Bc H) (ds ts:List Bq) (N:Nat) (hN:ts.length=N):
  Cw (Bt (Bt X (.row 0 1 ((ds.map D.str).map V.d))) (J3 0 ts)) (Bc H) 0=some (1,(ds.map D.str).map V.d)∧
  Ry (Bt (Bt X (.row 0 1 ((ds.map D.str).map V.d))) (J3 0 ts)) (.slc (Bc H+1) 0 0 N)=some (1,(ts.map D.str).map V.d,false)∧
  Bz (Bt (Bt X (.row 0 1 ((ds.map D.str).map V.d))) (J3 0 ts)) (Bc H) (.row 1 1 ((ds.map D.str).map V.d++(ts.map D.str).map V.d))=Bt (Bt X (.row 1 1 ((ds.map D.str).map V.d++(ts.map D.str).map V.d))) (J3 0 ts)∧
  Ws (Bc H) (Bt (Bt X (.row 1 1 ((ds.map D.str).map V.d++(ts.map D.str).map V.d))) (J3 0 ts)) (.slc (Bc H) 1 0 (ds.length+N))=some (.d (.vals 1 (ds.map D.str++ts.map D.str)))∧
  Cx (Bt (Bt X (.row 1 1 ((ds.map D.str).map V.d++(ts.map D.str).map V.d))) (J3 0 ts)) (Bc H)=X∧
  ((ts.map D.str).map V.d).all (Rt (Bc H) (Bc H))=true:=by
 subst hN
 rw[←hl]
 refine⟨?_, ?_, ?_, ?_, ?_, ?_⟩
 ·simp only[Cw,Dz _ (show Bc X<Bc (Bt X (.row 0 1 ((ds.map D.str).map V.d))) by rw[Ch];omega),Dr]
  rfl
 ·have hr:Cw (Bt (Bt X (.row 0 1 ((ds.map D.str).map V.d))) (J3 0 ts)) (Bc X+1) 0=some (1,(ts.map D.str).map V.d):=Bcj (by rw[Ch])
  simp only[Ry,hr]
  rw[if_pos (by simp),List.drop_zero,List.take_of_length_le (by simp)]
 ·rw[Np (by rw[Ch];omega),Qx]
 ·have hr:Cw (Bt (Bt X (.row 1 1 ((ds.map D.str).map V.d++(ts.map D.str).map V.d))) (J3 0 ts)) (Bc X) 1=some (1,(ds.map D.str).map V.d++(ts.map D.str).map V.d):=by
   simp only[Cw,Dz _ (show Bc X<Bc (Bt X (.row 1 1 ((ds.map D.str).map V.d++(ts.map D.str).map V.d))) by rw[Ch];omega),Dr]
   rfl
  have h:=Yu (n:=Bc X) (d:=7) (i:=0) (k:=ds.length+ts.length) (by omega) hr (by simp) (ys:=ds.map D.str++ts.map D.str) (by
   rw[List.drop_zero,List.take_of_length_le (by simp),←List.map_append];exact Bbu _)
  show(if Bc X<Bc X then _ else(match fz (Bc X) M7 _ (.slc (Bc X) 1 0 (ds.length+ts.length)) with|some x=>some (V.d x) |none=>none))=_
  rw[if_neg (by omega),show M7=7+1 from rfl,h]
 ·simp[Cx,Bt,Bc]
 ·simp[Rt,Ke]
theorem Nz (H X:Hp) (hl:Bc X=Bc H) (ds:List Bq):
  Cw (Bt X (.row 0 1 ((ds.map D.str).map V.d))) (Bc H) 0=some (1,(ds.map D.str).map V.d)∧Cx (Bt X (.row 0 1 ((ds.map D.str).map V.d))) (Bc H)=X∧True:=by
 rw[←hl]
 exact⟨Cy _ _ _ _,Fa _ _,trivial⟩
theorem Y4 (H X:Hp) (hl:Bc X=Bc H) (g:Nat) (ys:List V) (o:Ev.Obj):Cw (Bt (Bt X (.row g 1 ys)) o) (Bc H) g=some (1,ys):=by
 rw[←hl]
 simp only[Cw,Dz _ (show Bc X<Bc (Bt X (.row g 1 ys)) by rw[Ch];omega),Dr]
 simp
def Ya (H:Hp) (r:Nat) (bs:List Int) (p:Int):Prop:=
 ∃ (ts:List Bq) (p':Int),ev R 64 [.ptr r 0 0 0] H=some (.slc (Bc H) 0 0 ts.length,Bt (Bz H r (rd bs p')) (J3 0 ts))∧p≤p'∧p'≤p+20∧1≤ts.length∧ts.length≤8∧∀x∈ts,x.length≤40
theorem B9j (H:Hp) (r:Nat) (bs:List Int) (p:Int) (h:Cf H r=some (rd bs p)) (hb:Dk bs) (hp:0≤p) (hp2:p≤1000000000) (hc:Dc bs (p+2) 12=0):Ya H r bs p:=by
 obtain⟨p1,hp1⟩: ∃q,q=p+1:=⟨_,rfl⟩
 obtain⟨p2,hp2'⟩: ∃q,q=p1+1:=⟨_,rfl⟩
 obtain⟨p3,hp3⟩: ∃q,q=p2+1:=⟨_,rfl⟩
 obtain⟨kk,lk,qk⟩:=Z7 H r bs p p1 h hb (by omega) (by omega) hp1
 rw[Ga h] at qk
 obtain⟨tt,lt,qt⟩:=Z8 H r bs p1 p2 h hb (by omega) (by omega) hp2'
 have qp:=Z6 H r bs p2 p3 12 h hb (by omega) (by omega) hp3
 rw[show p2=p+2 by omega] at qp
 rw[hc] at qp
 rw[show p+2=p2 by omega] at qp
 obtain⟨p4,hp4⟩: ∃q,q=p3+1:=⟨_,rfl⟩
 obtain⟨t1,l1,q1⟩:=Lv H r bs p3 p4 [[71,69,84],[83,84,82,76,69,78],[73,78,67,82],[76,80,79,80],[82,80,79,80],[76,76,69,78],[83,77,69,77,66,69,82,83],[83,67,65,82,68],[90,67,65,82,68],[72,71,69,84,65,76,76],[72,76,69,78],[84,89,80,69],[84,84,76],[80,69,82,83,73,83,84]] h hb (by omega) (by omega) hp4 (by simp) (by simp[*])
 simp only[Bf,List.map_cons,List.map_nil] at q1
 refine⟨[t1,kk],p4, ?_,by omega,by omega,by simp,by simp,by simp[*]⟩
 obtain⟨o1,o2,o3⟩:=Nz H (Bz H r (rd bs p4)) (Br _ _ _) [t1,kk]
 refine Bh (fn:=f64) rfl rfl ?_
 have hl:=Br H r (rd bs p4)
 simp only[J3,List.map_cons,List.map_nil,List.length_cons,List.length_nil,Nat.zero_add,Nat.reduceAdd] at o1 o2⊢
 simp[Cn,-List.getD_eq_getElem?_getD,-List.map_map,f64,qk,qt,qp,q1,hl,o1,o2,Uq]
theorem B9k (H:Hp) (r:Nat) (bs:List Int) (p:Int) (h:Cf H r=some (rd bs p)) (hb:Dk bs) (hp:0≤p) (hp2:p≤1000000000) (hc:Dc bs (p+2) 12=1):Ya H r bs p:=by
 obtain⟨p1,hp1⟩: ∃q,q=p+1:=⟨_,rfl⟩
 obtain⟨p2,hp2'⟩: ∃q,q=p1+1:=⟨_,rfl⟩
 obtain⟨p3,hp3⟩: ∃q,q=p2+1:=⟨_,rfl⟩
 obtain⟨kk,lk,qk⟩:=Z7 H r bs p p1 h hb (by omega) (by omega) hp1
 rw[Ga h] at qk
 obtain⟨tt,lt,qt⟩:=Z8 H r bs p1 p2 h hb (by omega) (by omega) hp2'
 have qp:=Z6 H r bs p2 p3 12 h hb (by omega) (by omega) hp3
 rw[show p2=p+2 by omega] at qp
 rw[hc] at qp
 rw[show p+2=p2 by omega] at qp
 obtain⟨p4,hp4⟩: ∃q,q=p3+1:=⟨_,rfl⟩
 obtain⟨t1,l1,q1⟩:=Lv H r bs p3 p4 [[107],[107,50]] h hb (by omega) (by omega) hp4 (by simp) (by simp[*])
 simp only[Bf,List.map_cons,List.map_nil] at q1
 refine⟨[[83,69,84],t1,tt],p4, ?_,by omega,by omega,by simp,by simp,by simp[*]⟩
 obtain⟨o1,o2,o3⟩:=Nz H (Bz H r (rd bs p4)) (Br _ _ _) [[83,69,84],t1,tt]
 refine Bh (fn:=f64) rfl rfl ?_
 have hl:=Br H r (rd bs p4)
 simp only[J3,List.map_cons,List.map_nil,List.length_cons,List.length_nil,Nat.zero_add,Nat.reduceAdd] at o1 o2⊢
 simp[Cn,-List.getD_eq_getElem?_getD,-List.map_map,f64,qk,qt,qp,q1,hl,o1,o2,Uq]
theorem B9l (H:Hp) (r:Nat) (bs:List Int) (p:Int) (h:Cf H r=some (rd bs p)) (hb:Dk bs) (hp:0≤p) (hp2:p≤1000000000) (hc:Dc bs (p+2) 12=2):Ya H r bs p:=by
 obtain⟨p1,hp1⟩: ∃q,q=p+1:=⟨_,rfl⟩
 obtain⟨p2,hp2'⟩: ∃q,q=p1+1:=⟨_,rfl⟩
 obtain⟨p3,hp3⟩: ∃q,q=p2+1:=⟨_,rfl⟩
 obtain⟨kk,lk,qk⟩:=Z7 H r bs p p1 h hb (by omega) (by omega) hp1
 rw[Ga h] at qk
 obtain⟨tt,lt,qt⟩:=Z8 H r bs p1 p2 h hb (by omega) (by omega) hp2'
 have qp:=Z6 H r bs p2 p3 12 h hb (by omega) (by omega) hp3
 rw[show p2=p+2 by omega] at qp
 rw[hc] at qp
 rw[show p+2=p2 by omega] at qp
 obtain⟨p4,hp4⟩: ∃q,q=p3+1:=⟨_,rfl⟩
 obtain⟨t1,l1,q1⟩:=Lv H r bs p3 p4 [[65,80,80,69,78,68],[73,78,67,82,66,89]] h hb (by omega) (by omega) hp4 (by simp) (by simp[*])
 simp only[Bf,List.map_cons,List.map_nil] at q1
 obtain⟨p5,hp5⟩: ∃q,q=p4+1:=⟨_,rfl⟩
 obtain⟨t2,l2,q2⟩:=Lv H r bs p4 p5 [[107],[107,50]] h hb (by omega) (by omega) hp5 (by simp) (by simp[*])
 simp only[Bf,List.map_cons,List.map_nil] at q2
 obtain⟨p6,hp6⟩: ∃q,q=p5+1:=⟨_,rfl⟩
 obtain⟨t3,l3,q3⟩:=Bol H r bs p5 p6 h hb (by omega) (by omega) hp6
 obtain⟨p7,hp7⟩: ∃q,q=p6+1:=⟨_,rfl⟩
 obtain⟨t4,l4,q4⟩:=Lv H r bs p6 p7 [tt,t3] h hb (by omega) (by omega) hp7 (by simp) (by simp[*])
 simp only[Bf,List.map_cons,List.map_nil] at q4
 refine⟨[t1,t2,t4],p7, ?_,by omega,by omega,by simp,by simp,by simp[*]⟩
 obtain⟨o1,o2,o3⟩:=Nz H (Bz H r (rd bs p7)) (Br _ _ _) [t1,t2,t4]
 refine Bh (fn:=f64) rfl rfl ?_
 have hl:=Br H r (rd bs p7)
 simp only[J3,List.map_cons,List.map_nil,List.length_cons,List.length_nil,Nat.zero_add,Nat.reduceAdd] at o1 o2⊢
 simp[Cn,-List.getD_eq_getElem?_getD,-List.map_map,f64,qk,qt,qp,q1,q2,q3,q4,hl,o1,o2,Uq]
theorem B9m (H:Hp) (r:Nat) (bs:List Int) (p:Int) (h:Cf H r=some (rd bs p)) (hb:Dk bs) (hp:0≤p) (hp2:p≤1000000000) (hc:Dc bs (p+2) 12=3):Ya H r bs p:=by
 obtain⟨p1,hp1⟩: ∃q,q=p+1:=⟨_,rfl⟩
 obtain⟨p2,hp2'⟩: ∃q,q=p1+1:=⟨_,rfl⟩
 obtain⟨p3,hp3⟩: ∃q,q=p2+1:=⟨_,rfl⟩
 obtain⟨kk,lk,qk⟩:=Z7 H r bs p p1 h hb (by omega) (by omega) hp1
 rw[Ga h] at qk
 obtain⟨tt,lt,qt⟩:=Z8 H r bs p1 p2 h hb (by omega) (by omega) hp2'
 have qp:=Z6 H r bs p2 p3 12 h hb (by omega) (by omega) hp3
 rw[show p2=p+2 by omega] at qp
 rw[hc] at qp
 rw[show p+2=p2 by omega] at qp
 obtain⟨p4,hp4⟩: ∃q,q=p3+1:=⟨_,rfl⟩
 obtain⟨t1,l1,q1⟩:=Lv H r bs p3 p4 [[76,80,85,83,72],[82,80,85,83,72]] h hb (by omega) (by omega) hp4 (by simp) (by simp[*])
 simp only[Bf,List.map_cons,List.map_nil] at q1
 obtain⟨p5,hp5⟩: ∃q,q=p4+1:=⟨_,rfl⟩
 obtain⟨t2,l2,q2⟩:=Lv H r bs p4 p5 [[108],[108],[107]] h hb (by omega) (by omega) hp5 (by simp) (by simp[*])
 simp only[Bf,List.map_cons,List.map_nil] at q2
 obtain⟨N,p9,nl,pl,q9⟩:=Bzv H r bs p5 3 3 rfl ([t1,t2,tt]:List Bq) h hb (by omega) (by omega) (by omega)
 obtain⟨a1,a2,a3,a4,a5,a6⟩:=Bes H (Bz H r (rd bs p9)) (Br _ _ _) [t1,t2,tt] (F3 bs N (p5+1)) N (Le bs N (p5+1))
 have tl:=Le bs N (p5+1)
 refine⟨[t1,t2,tt]++F3 bs N (p5+1),p9, ?_,by omega,by omega,by simp,by simp[tl];omega,fun x hx=> ?_⟩
 ·refine Bh (fn:=f64) rfl rfl ?_
  have sh:=Ka bs N (p5+1)
  clear sh
  generalize F3 bs N (p5+1)=ts at a1 a2 a3 a4 a5 a6 q9 tl⊢
  simp only[List.map_cons,List.map_nil,List.cons_append,List.nil_append,List.length_cons,List.length_nil,Bf,Nat.zero_add,Nat.reduceAdd] at a1 a2 a3 a4 a5 a6 q9⊢
  have rm: (N+3)*16≤Cq:=by unfold Cq;omega
  have rm2: (3+N)*16≤Cq:=by unfold Cq;omega
  have hl:=Br H r (rd bs p5)
  have aD:=Bar (ts.map D.str)
  have r1: ∀ys:List V,Cw (Bt (Bt (Bz H r (rd bs p9)) (.row 1 1 ys)) (J3 0 ts)) (Bc H) 1=some (1,ys):=fun ys=>Y4 H (Bz H r (rd bs p9)) (Br _ _ _) 1 ys (J3 0 ts)
  have hl9:=Br H r (rd bs p9)
  show _=some (V.slc (Bc H) 0 0 _,Bt (Bz H r (rd bs p9)) (.row 0 1 _))
  simp only[List.length_cons,List.length_nil,List.length_append,tl,Nat.zero_add,Nat.reduceAdd,List.map_cons,List.map_nil,List.cons_append,List.nil_append]
  simp[Cn,-List.getD_eq_getElem?_getD,-List.map_map,f64,qk,qt,qp,q1,q2,hl,hl9,q9,a1,a2,a3,a5,a6,rm,rm2,tl,aD,r1,Uq]
  omega
 ·rcases List.mem_append.1 hx with hx|hx
  ·simp only[List.mem_cons,List.not_mem_nil,or_false] at hx
   rcases hx with rfl|rfl|rfl<;>assumption
  ·exact Ka bs N (p5+1) x hx
theorem B9n (H:Hp) (r:Nat) (bs:List Int) (p:Int) (h:Cf H r=some (rd bs p)) (hb:Dk bs) (hp:0≤p) (hp2:p≤1000000000) (hc:Dc bs (p+2) 12=4):Ya H r bs p:=by
 obtain⟨p1,hp1⟩: ∃q,q=p+1:=⟨_,rfl⟩
 obtain⟨p2,hp2'⟩: ∃q,q=p1+1:=⟨_,rfl⟩
 obtain⟨p3,hp3⟩: ∃q,q=p2+1:=⟨_,rfl⟩
 obtain⟨kk,lk,qk⟩:=Z7 H r bs p p1 h hb (by omega) (by omega) hp1
 rw[Ga h] at qk
 obtain⟨tt,lt,qt⟩:=Z8 H r bs p1 p2 h hb (by omega) (by omega) hp2'
 have qp:=Z6 H r bs p2 p3 12 h hb (by omega) (by omega) hp3
 rw[show p2=p+2 by omega] at qp
 rw[hc] at qp
 rw[show p+2=p2 by omega] at qp
 obtain⟨p4,hp4⟩: ∃q,q=p3+1:=⟨_,rfl⟩
 obtain⟨t1,l1,q1⟩:=Lv H r bs p3 p4 [[76,82,65,78,71,69],[76,84,82,73,77],[76,83,69,84],[76,82,69,77],[71,69,84,82,65,78,71,69]] h hb (by omega) (by omega) hp4 (by simp) (by simp[*])
 simp only[Bf,List.map_cons,List.map_nil] at q1
 obtain⟨p5,hp5⟩: ∃q,q=p4+1:=⟨_,rfl⟩
 obtain⟨t2,l2,q2⟩:=Lv H r bs p4 p5 [[108],[108],[107]] h hb (by omega) (by omega) hp5 (by simp) (by simp[*])
 simp only[Bf,List.map_cons,List.map_nil] at q2
 obtain⟨p6,hp6⟩: ∃q,q=p5+1:=⟨_,rfl⟩
 obtain⟨t3,l3,q3⟩:=Bol H r bs p5 p6 h hb (by omega) (by omega) hp6
 obtain⟨p7,hp7⟩: ∃q,q=p6+1:=⟨_,rfl⟩
 obtain⟨t4,l4,q4⟩:=Bol H r bs p6 p7 h hb (by omega) (by omega) hp7
 obtain⟨p8,hp8⟩: ∃q,q=p7+1:=⟨_,rfl⟩
 obtain⟨t5,l5,q5⟩:=Lv H r bs p7 p8 [t4,tt] h hb (by omega) (by omega) hp8 (by simp) (by simp[*])
 simp only[Bf,List.map_cons,List.map_nil] at q5
 refine⟨[t1,t2,t3,t5],p8, ?_,by omega,by omega,by simp,by simp,by simp[*]⟩
 obtain⟨o1,o2,o3⟩:=Nz H (Bz H r (rd bs p8)) (Br _ _ _) [t1,t2,t3,t5]
 refine Bh (fn:=f64) rfl rfl ?_
 have hl:=Br H r (rd bs p8)
 simp only[J3,List.map_cons,List.map_nil,List.length_cons,List.length_nil,Nat.zero_add,Nat.reduceAdd] at o1 o2⊢
 simp[Cn,-List.getD_eq_getElem?_getD,-List.map_map,f64,qk,qt,qp,q1,q2,q3,q4,q5,hl,o1,o2,Uq]
theorem B9o (H:Hp) (r:Nat) (bs:List Int) (p:Int) (h:Cf H r=some (rd bs p)) (hb:Dk bs) (hp:0≤p) (hp2:p≤1000000000) (hc:Dc bs (p+2) 12=5):Ya H r bs p:=by
 obtain⟨p1,hp1⟩: ∃q,q=p+1:=⟨_,rfl⟩
 obtain⟨p2,hp2'⟩: ∃q,q=p1+1:=⟨_,rfl⟩
 obtain⟨p3,hp3⟩: ∃q,q=p2+1:=⟨_,rfl⟩
 obtain⟨kk,lk,qk⟩:=Z7 H r bs p p1 h hb (by omega) (by omega) hp1
 rw[Ga h] at qk
 obtain⟨tt,lt,qt⟩:=Z8 H r bs p1 p2 h hb (by omega) (by omega) hp2'
 have qp:=Z6 H r bs p2 p3 12 h hb (by omega) (by omega) hp3
 rw[show p2=p+2 by omega] at qp
 rw[hc] at qp
 rw[show p+2=p2 by omega] at qp
 obtain⟨p4,hp4⟩: ∃q,q=p3+1:=⟨_,rfl⟩
 obtain⟨t1,l1,q1⟩:=Lv H r bs p3 p4 [[83,65,68,68],[83,65,68,68],[83,82,69,77]] h hb (by omega) (by omega) hp4 (by simp) (by simp[*])
 simp only[Bf,List.map_cons,List.map_nil] at q1
 obtain⟨p5,hp5⟩: ∃q,q=p4+1:=⟨_,rfl⟩
 obtain⟨t2,l2,q2⟩:=Lv H r bs p4 p5 [[115],[115,50]] h hb (by omega) (by omega) hp5 (by simp) (by simp[*])
 simp only[Bf,List.map_cons,List.map_nil] at q2
 obtain⟨N,p9,nl,pl,q9⟩:=Bzv H r bs p5 2 2 rfl ([t1,t2,tt]:List Bq) h hb (by omega) (by omega) (by omega)
 obtain⟨a1,a2,a3,a4,a5,a6⟩:=Bes H (Bz H r (rd bs p9)) (Br _ _ _) [t1,t2,tt] (F3 bs N (p5+1)) N (Le bs N (p5+1))
 have tl:=Le bs N (p5+1)
 refine⟨[t1,t2,tt]++F3 bs N (p5+1),p9, ?_,by omega,by omega,by simp,by simp[tl];omega,fun x hx=> ?_⟩
 ·refine Bh (fn:=f64) rfl rfl ?_
  have sh:=Ka bs N (p5+1)
  clear sh
  generalize F3 bs N (p5+1)=ts at a1 a2 a3 a4 a5 a6 q9 tl⊢
  simp only[List.map_cons,List.map_nil,List.cons_append,List.nil_append,List.length_cons,List.length_nil,Bf,Nat.zero_add,Nat.reduceAdd] at a1 a2 a3 a4 a5 a6 q9⊢
  have rm: (N+3)*16≤Cq:=by unfold Cq;omega
  have rm2: (3+N)*16≤Cq:=by unfold Cq;omega
  have hl:=Br H r (rd bs p5)
  have aD:=Bar (ts.map D.str)
  have r1: ∀ys:List V,Cw (Bt (Bt (Bz H r (rd bs p9)) (.row 1 1 ys)) (J3 0 ts)) (Bc H) 1=some (1,ys):=fun ys=>Y4 H (Bz H r (rd bs p9)) (Br _ _ _) 1 ys (J3 0 ts)
  have hl9:=Br H r (rd bs p9)
  show _=some (V.slc (Bc H) 0 0 _,Bt (Bz H r (rd bs p9)) (.row 0 1 _))
  simp only[List.length_cons,List.length_nil,List.length_append,tl,Nat.zero_add,Nat.reduceAdd,List.map_cons,List.map_nil,List.cons_append,List.nil_append]
  simp[Cn,-List.getD_eq_getElem?_getD,-List.map_map,f64,qk,qt,qp,q1,q2,hl,hl9,q9,a1,a2,a3,a5,a6,rm,rm2,tl,aD,r1,Uq]
  omega
 ·rcases List.mem_append.1 hx with hx|hx
  ·simp only[List.mem_cons,List.not_mem_nil,or_false] at hx
   rcases hx with rfl|rfl|rfl<;>assumption
  ·exact Ka bs N (p5+1) x hx
theorem B9p (H:Hp) (r:Nat) (bs:List Int) (p:Int) (h:Cf H r=some (rd bs p)) (hb:Dk bs) (hp:0≤p) (hp2:p≤1000000000) (hc:Dc bs (p+2) 12=6):Ya H r bs p:=by
 obtain⟨p1,hp1⟩: ∃q,q=p+1:=⟨_,rfl⟩
 obtain⟨p2,hp2'⟩: ∃q,q=p1+1:=⟨_,rfl⟩
 obtain⟨p3,hp3⟩: ∃q,q=p2+1:=⟨_,rfl⟩
 obtain⟨kk,lk,qk⟩:=Z7 H r bs p p1 h hb (by omega) (by omega) hp1
 rw[Ga h] at qk
 obtain⟨tt,lt,qt⟩:=Z8 H r bs p1 p2 h hb (by omega) (by omega) hp2'
 have qp:=Z6 H r bs p2 p3 12 h hb (by omega) (by omega) hp3
 rw[show p2=p+2 by omega] at qp
 rw[hc] at qp
 rw[show p+2=p2 by omega] at qp
 obtain⟨p4,hp4⟩: ∃q,q=p3+1:=⟨_,rfl⟩
 obtain⟨t1,l1,q1⟩:=Lv H r bs p3 p4 [[83,73,83,77,69,77,66,69,82],[83,73,78,84,69,82],[83,85,78,73,79,78],[83,68,73,70,70]] h hb (by omega) (by omega) hp4 (by simp) (by simp[*])
 simp only[Bf,List.map_cons,List.map_nil] at q1
 obtain⟨p5,hp5⟩: ∃q,q=p4+1:=⟨_,rfl⟩
 obtain⟨t2,l2,q2⟩:=Lv H r bs p4 p5 [[115],[115,50]] h hb (by omega) (by omega) hp5 (by simp) (by simp[*])
 simp only[Bf,List.map_cons,List.map_nil] at q2
 obtain⟨p6,hp6⟩: ∃q,q=p5+1:=⟨_,rfl⟩
 obtain⟨t3,l3,q3⟩:=Lv H r bs p5 p6 [[115],[115,50],tt] h hb (by omega) (by omega) hp6 (by simp) (by simp[*])
 simp only[Bf,List.map_cons,List.map_nil] at q3
 refine⟨[t1,t2,t3],p6, ?_,by omega,by omega,by simp,by simp,by simp[*]⟩
 obtain⟨o1,o2,o3⟩:=Nz H (Bz H r (rd bs p6)) (Br _ _ _) [t1,t2,t3]
 refine Bh (fn:=f64) rfl rfl ?_
 have hl:=Br H r (rd bs p6)
 simp only[J3,List.map_cons,List.map_nil,List.length_cons,List.length_nil,Nat.zero_add,Nat.reduceAdd] at o1 o2⊢
 simp[Cn,-List.getD_eq_getElem?_getD,-List.map_map,f64,qk,qt,qp,q1,q2,q3,hl,o1,o2,Uq]
theorem B9q (H:Hp) (r:Nat) (bs:List Int) (p:Int) (h:Cf H r=some (rd bs p)) (hb:Dk bs) (hp:0≤p) (hp2:p≤1000000000) (hc:Dc bs (p+2) 12=7):Ya H r bs p:=by
 obtain⟨p1,hp1⟩: ∃q,q=p+1:=⟨_,rfl⟩
 obtain⟨p2,hp2'⟩: ∃q,q=p1+1:=⟨_,rfl⟩
 obtain⟨p3,hp3⟩: ∃q,q=p2+1:=⟨_,rfl⟩
 obtain⟨kk,lk,qk⟩:=Z7 H r bs p p1 h hb (by omega) (by omega) hp1
 rw[Ga h] at qk
 obtain⟨tt,lt,qt⟩:=Z8 H r bs p1 p2 h hb (by omega) (by omega) hp2'
 have qp:=Z6 H r bs p2 p3 12 h hb (by omega) (by omega) hp3
 rw[show p2=p+2 by omega] at qp
 rw[hc] at qp
 rw[show p+2=p2 by omega] at qp
 obtain⟨p4,hp4⟩: ∃q,q=p3+1:=⟨_,rfl⟩
 obtain⟨t1,l1,q1⟩:=Lv H r bs p3 p4 [[90,65,68,68],[90,65,68,68],[90,73,78,67,82,66,89],[90,82,65,78,71,69],[90,82,65,78,71,69,66,89,83,67,79,82,69]] h hb (by omega) (by omega) hp4 (by simp) (by simp[*])
 simp only[Bf,List.map_cons,List.map_nil] at q1
 obtain⟨p5,hp5⟩: ∃q,q=p4+1:=⟨_,rfl⟩
 obtain⟨t2,l2,q2⟩:=Bol H r bs p4 p5 h hb (by omega) (by omega) hp5
 obtain⟨p6,hp6⟩: ∃q,q=p5+1:=⟨_,rfl⟩
 obtain⟨t3,l3,q3⟩:=Bol H r bs p5 p6 h hb (by omega) (by omega) hp6
 obtain⟨p7,hp7⟩: ∃q,q=p6+1:=⟨_,rfl⟩
 obtain⟨t4,l4,q4⟩:=Lv H r bs p6 p7 [tt,t3] h hb (by omega) (by omega) hp7 (by simp) (by simp[*])
 simp only[Bf,List.map_cons,List.map_nil] at q4
 refine⟨[t1,[122],t2,t4],p7, ?_,by omega,by omega,by simp,by simp,by simp[*]⟩
 obtain⟨o1,o2,o3⟩:=Nz H (Bz H r (rd bs p7)) (Br _ _ _) [t1,[122],t2,t4]
 refine Bh (fn:=f64) rfl rfl ?_
 have hl:=Br H r (rd bs p7)
 simp only[J3,List.map_cons,List.map_nil,List.length_cons,List.length_nil,Nat.zero_add,Nat.reduceAdd] at o1 o2⊢
 simp[Cn,-List.getD_eq_getElem?_getD,-List.map_map,f64,qk,qt,qp,q1,q2,q3,q4,hl,o1,o2,Uq]
theorem B9r (H:Hp) (r:Nat) (bs:List Int) (p:Int) (h:Cf H r=some (rd bs p)) (hb:Dk bs) (hp:0≤p) (hp2:p≤1000000000) (hc:Dc bs (p+2) 12=8):Ya H r bs p:=by
 obtain⟨p1,hp1⟩: ∃q,q=p+1:=⟨_,rfl⟩
 obtain⟨p2,hp2'⟩: ∃q,q=p1+1:=⟨_,rfl⟩
 obtain⟨p3,hp3⟩: ∃q,q=p2+1:=⟨_,rfl⟩
 obtain⟨kk,lk,qk⟩:=Z7 H r bs p p1 h hb (by omega) (by omega) hp1
 rw[Ga h] at qk
 obtain⟨tt,lt,qt⟩:=Z8 H r bs p1 p2 h hb (by omega) (by omega) hp2'
 have qp:=Z6 H r bs p2 p3 12 h hb (by omega) (by omega) hp3
 rw[show p2=p+2 by omega] at qp
 rw[hc] at qp
 rw[show p+2=p2 by omega] at qp
 obtain⟨p4,hp4⟩: ∃q,q=p3+1:=⟨_,rfl⟩
 obtain⟨t1,l1,q1⟩:=Lv H r bs p3 p4 [[90,82,69,77],[90,83,67,79,82,69],[90,82,65,78,75],[72,71,69,84],[72,68,69,76]] h hb (by omega) (by omega) hp4 (by simp) (by simp[*])
 simp only[Bf,List.map_cons,List.map_nil] at q1
 obtain⟨p5,hp5⟩: ∃q,q=p4+1:=⟨_,rfl⟩
 obtain⟨t2,l2,q2⟩:=Lv H r bs p4 p5 [[122],[104]] h hb (by omega) (by omega) hp5 (by simp) (by simp[*])
 simp only[Bf,List.map_cons,List.map_nil] at q2
 refine⟨[t1,t2,tt],p5, ?_,by omega,by omega,by simp,by simp,by simp[*]⟩
 obtain⟨o1,o2,o3⟩:=Nz H (Bz H r (rd bs p5)) (Br _ _ _) [t1,t2,tt]
 refine Bh (fn:=f64) rfl rfl ?_
 have hl:=Br H r (rd bs p5)
 simp only[J3,List.map_cons,List.map_nil,List.length_cons,List.length_nil,Nat.zero_add,Nat.reduceAdd] at o1 o2⊢
 simp[Cn,-List.getD_eq_getElem?_getD,-List.map_map,f64,qk,qt,qp,q1,q2,hl,o1,o2,Uq]
theorem B9s (H:Hp) (r:Nat) (bs:List Int) (p:Int) (h:Cf H r=some (rd bs p)) (hb:Dk bs) (hp:0≤p) (hp2:p≤1000000000) (hc:Dc bs (p+2) 12=9):Ya H r bs p:=by
 obtain⟨p1,hp1⟩: ∃q,q=p+1:=⟨_,rfl⟩
 obtain⟨p2,hp2'⟩: ∃q,q=p1+1:=⟨_,rfl⟩
 obtain⟨p3,hp3⟩: ∃q,q=p2+1:=⟨_,rfl⟩
 obtain⟨kk,lk,qk⟩:=Z7 H r bs p p1 h hb (by omega) (by omega) hp1
 rw[Ga h] at qk
 obtain⟨tt,lt,qt⟩:=Z8 H r bs p1 p2 h hb (by omega) (by omega) hp2'
 have qp:=Z6 H r bs p2 p3 12 h hb (by omega) (by omega) hp3
 rw[show p2=p+2 by omega] at qp
 rw[hc] at qp
 rw[show p+2=p2 by omega] at qp
 obtain⟨p4,hp4⟩: ∃q,q=p3+1:=⟨_,rfl⟩
 obtain⟨t1,l1,q1⟩:=Lv H r bs p3 p4 [[72,83,69,84],[72,83,69,84],[72,73,78,67,82,66,89]] h hb (by omega) (by omega) hp4 (by simp) (by simp[*])
 simp only[Bf,List.map_cons,List.map_nil] at q1
 obtain⟨p5,hp5⟩: ∃q,q=p4+1:=⟨_,rfl⟩
 obtain⟨t2,l2,q2⟩:=Lv H r bs p4 p5 [[97],[98],tt] h hb (by omega) (by omega) hp5 (by simp) (by simp[*])
 simp only[Bf,List.map_cons,List.map_nil] at q2
 obtain⟨p6,hp6⟩: ∃q,q=p5+1:=⟨_,rfl⟩
 obtain⟨t3,l3,q3⟩:=Bol H r bs p5 p6 h hb (by omega) (by omega) hp6
 obtain⟨p7,hp7⟩: ∃q,q=p6+1:=⟨_,rfl⟩
 obtain⟨t4,l4,q4⟩:=Lv H r bs p6 p7 [tt,t3] h hb (by omega) (by omega) hp7 (by simp) (by simp[*])
 simp only[Bf,List.map_cons,List.map_nil] at q4
 refine⟨[t1,[104],t2,t4],p7, ?_,by omega,by omega,by simp,by simp,by simp[*]⟩
 obtain⟨o1,o2,o3⟩:=Nz H (Bz H r (rd bs p7)) (Br _ _ _) [t1,[104],t2,t4]
 refine Bh (fn:=f64) rfl rfl ?_
 have hl:=Br H r (rd bs p7)
 simp only[J3,List.map_cons,List.map_nil,List.length_cons,List.length_nil,Nat.zero_add,Nat.reduceAdd] at o1 o2⊢
 simp[Cn,-List.getD_eq_getElem?_getD,-List.map_map,f64,qk,qt,qp,q1,q2,q3,q4,hl,o1,o2,Uq]
theorem B5x (H:Hp) (r:Nat) (bs:List Int) (p:Int) (h:Cf H r=some (rd bs p)) (hb:Dk bs) (hp:0≤p) (hp2:p≤1000000000) (hc:Dc bs (p+2) 12=10):Ya H r bs p:=by
 obtain⟨p1,hp1⟩: ∃q,q=p+1:=⟨_,rfl⟩
 obtain⟨p2,hp2'⟩: ∃q,q=p1+1:=⟨_,rfl⟩
 obtain⟨p3,hp3⟩: ∃q,q=p2+1:=⟨_,rfl⟩
 obtain⟨kk,lk,qk⟩:=Z7 H r bs p p1 h hb (by omega) (by omega) hp1
 rw[Ga h] at qk
 obtain⟨tt,lt,qt⟩:=Z8 H r bs p1 p2 h hb (by omega) (by omega) hp2'
 have qp:=Z6 H r bs p2 p3 12 h hb (by omega) (by omega) hp3
 rw[show p2=p+2 by omega] at qp
 rw[hc] at qp
 rw[show p+2=p2 by omega] at qp
 obtain⟨p4,hp4⟩: ∃q,q=p3+1:=⟨_,rfl⟩
 obtain⟨t1,l1,q1⟩:=Lv H r bs p3 p4 [[69,88,80,73,82,69],[69,88,80,73,82,69,65,84],[82,69,78,65,77,69]] h hb (by omega) (by omega) hp4 (by simp) (by simp[*])
 simp only[Bf,List.map_cons,List.map_nil] at q1
 obtain⟨p5,hp5⟩: ∃q,q=p4+1:=⟨_,rfl⟩
 obtain⟨t2,l2,q2⟩:=Lv H r bs p4 p5 [[53],[49],[49,48,48],[107],[108],[107,50],[45,49],[49,48,48,48,48,48,49]] h hb (by omega) (by omega) hp5 (by simp) (by simp[*])
 simp only[Bf,List.map_cons,List.map_nil] at q2
 refine⟨[t1,kk,t2],p5, ?_,by omega,by omega,by simp,by simp,by simp[*]⟩
 obtain⟨o1,o2,o3⟩:=Nz H (Bz H r (rd bs p5)) (Br _ _ _) [t1,kk,t2]
 refine Bh (fn:=f64) rfl rfl ?_
 have hl:=Br H r (rd bs p5)
 simp only[J3,List.map_cons,List.map_nil,List.length_cons,List.length_nil,Nat.zero_add,Nat.reduceAdd] at o1 o2⊢
 simp[Cn,-List.getD_eq_getElem?_getD,-List.map_map,f64,qk,qt,qp,q1,q2,hl,o1,o2,Uq]
theorem B5y (H:Hp) (r:Nat) (bs:List Int) (p:Int) (h:Cf H r=some (rd bs p)) (hb:Dk bs) (hp:0≤p) (hp2:p≤1000000000) (hc:11≤Dc bs (p+2) 12):Ya H r bs p:=by
 obtain⟨p1,hp1⟩: ∃q,q=p+1:=⟨_,rfl⟩
 obtain⟨p2,hp2'⟩: ∃q,q=p1+1:=⟨_,rfl⟩
 obtain⟨p3,hp3⟩: ∃q,q=p2+1:=⟨_,rfl⟩
 obtain⟨kk,lk,qk⟩:=Z7 H r bs p p1 h hb (by omega) (by omega) hp1
 rw[Ga h] at qk
 obtain⟨tt,lt,qt⟩:=Z8 H r bs p1 p2 h hb (by omega) (by omega) hp2'
 have qp:=Z6 H r bs p2 p3 12 h hb (by omega) (by omega) hp3
 rw[show p2=p+2 by omega] at qp
 obtain⟨_,pm⟩:=Jj bs (p+2) 12 hb (by omega) (by omega)
 have pm:=pm (by omega)
 rw[show Dc bs (p+2) 12=11 by omega] at qp
 rw[show p+2=p2 by omega] at qp
 obtain⟨p4,hp4⟩: ∃q,q=p3+1:=⟨_,rfl⟩
 obtain⟨t1,l1,q1⟩:=Lv H r bs p3 p4 [[68,69,76],[69,88,73,83,84,83],[75,69,89,83],[68,66,83,73,90,69],[70,76,85,83,72],[78,79,78,69],[68,69,76]] h hb (by omega) (by omega) hp4 (by simp) (by simp[*])
 simp only[Bf,List.map_cons,List.map_nil] at q1
 obtain⟨p5,hp5⟩: ∃q,q=p4+1:=⟨_,rfl⟩
 obtain⟨t2,l2,q2⟩:=Lv H r bs p4 p5 [kk,[42],[63],[107,42],[]] h hb (by omega) (by omega) hp5 (by simp) (by simp[*])
 simp only[Bf,List.map_cons,List.map_nil] at q2
 obtain⟨N,p9,nl,pl,q9⟩:=Bzv H r bs p5 1 1 rfl ([t1,t2]:List Bq) h hb (by omega) (by omega) (by omega)
 obtain⟨a1,a2,a3,a4,a5,a6⟩:=Bes H (Bz H r (rd bs p9)) (Br _ _ _) [t1,t2] (F3 bs N (p5+1)) N (Le bs N (p5+1))
 have tl:=Le bs N (p5+1)
 refine⟨[t1,t2]++F3 bs N (p5+1),p9, ?_,by omega,by omega,by simp,by simp[tl];omega,fun x hx=> ?_⟩
 ·refine Bh (fn:=f64) rfl rfl ?_
  have sh:=Ka bs N (p5+1)
  clear sh
  generalize F3 bs N (p5+1)=ts at a1 a2 a3 a4 a5 a6 q9 tl⊢
  simp only[List.map_cons,List.map_nil,List.cons_append,List.nil_append,List.length_cons,List.length_nil,Bf,Nat.zero_add,Nat.reduceAdd] at a1 a2 a3 a4 a5 a6 q9⊢
  have rm: (N+2)*16≤Cq:=by unfold Cq;omega
  have rm2: (2+N)*16≤Cq:=by unfold Cq;omega
  have hl:=Br H r (rd bs p5)
  have aD:=Bar (ts.map D.str)
  have r1: ∀ys:List V,Cw (Bt (Bt (Bz H r (rd bs p9)) (.row 1 1 ys)) (J3 0 ts)) (Bc H) 1=some (1,ys):=fun ys=>Y4 H (Bz H r (rd bs p9)) (Br _ _ _) 1 ys (J3 0 ts)
  have hl9:=Br H r (rd bs p9)
  show _=some (V.slc (Bc H) 0 0 _,Bt (Bz H r (rd bs p9)) (.row 0 1 _))
  simp only[List.length_cons,List.length_nil,List.length_append,tl,Nat.zero_add,Nat.reduceAdd,List.map_cons,List.map_nil,List.cons_append,List.nil_append]
  simp[Cn,-List.getD_eq_getElem?_getD,-List.map_map,f64,qk,qt,qp,q1,q2,hl,hl9,q9,a1,a2,a3,a5,a6,rm,rm2,tl,aD,r1,Uq]
  omega
 ·rcases List.mem_append.1 hx with hx|hx
  ·simp only[List.mem_cons,List.not_mem_nil,or_false] at hx
   rcases hx with rfl|rfl<;>assumption
  ·exact Ka bs N (p5+1) x hx
theorem B6g (H:Hp) (r:Nat) (bs:List Int) (p:Int) (h:Cf H r=some (rd bs p)) (hb:Dk bs) (hp:0≤p) (hp2:p≤1000000000):Ya H r bs p:=by
 obtain⟨k0,k1⟩:=Jj bs (p+2) 12 hb (by omega) (by omega)
 have k1:=k1 (by omega)
 have c:Dc bs (p+2) 12=0∨Dc bs (p+2) 12=1∨Dc bs (p+2) 12=2∨Dc bs (p+2) 12=3∨Dc bs (p+2) 12=4∨Dc bs (p+2) 12=5∨Dc bs (p+2) 12=6∨Dc bs (p+2) 12=7∨Dc bs (p+2) 12=8∨Dc bs (p+2) 12=9∨Dc bs (p+2) 12=10∨11≤Dc bs (p+2) 12:=by omega
 rcases c with c|c|c|c|c|c|c|c|c|c|c|c
 ·exact B9j H r bs p h hb hp hp2 c
 ·exact B9k H r bs p h hb hp hp2 c
 ·exact B9l H r bs p h hb hp hp2 c
 ·exact B9m H r bs p h hb hp hp2 c
 ·exact B9n H r bs p h hb hp hp2 c
 ·exact B9o H r bs p h hb hp hp2 c
 ·exact B9p H r bs p h hb hp hp2 c
 ·exact B9q H r bs p h hb hp hp2 c
 ·exact B9r H r bs p h hb hp hp2 c
 ·exact B9s H r bs p h hb hp hp2 c
 ·exact B5x H r bs p h hb hp hp2 c
 ·exact B5y H r bs p h hb hp hp2 c
def oh (H:Hp) (r:Nat) (o:Ev.Obj) (l:Hp):Hp:=ap (Bz H r o) l
section
variable (H l:Hp) (r:Nat) (o:Ev.Obj)
theorem Nt (x:Ev.Obj):Bt (oh H r o l) x=oh H r o ((l:List Ev.Obj)++[x]):=Ber _ _ _
theorem Qp:Bc (oh H r o l)=Bc H+l.length:=by unfold oh;rw[Yc,Br]
theorem Qo (k:Nat):Cf (oh H r o l) (Bc H+k)=Cf l k:=by
 have:=L8 (Bz H r o) l k
 rwa[Br] at this
theorem Nr:Cf (oh H r o l) (Bc H)=Cf l 0:=Qo H l r o 0
theorem Qq (k:Nat) (x:Ev.Obj):Bz (oh H r o l) (Bc H+k) x=oh H r o (Bz l k x):=by
 have:=Rc (Bz H r o) l k x
 rwa[Br] at this
theorem Nu (x:Ev.Obj):Bz (oh H r o l) (Bc H) x=oh H r o (Bz l 0 x):=Qq H l r o 0 x
theorem Nw:Cx (oh H r o l) (Bc H)=Bz H r o:=by
 have:=Lh (Bz H r o) l
 rwa[Br] at this
theorem Lp (k:Nat):Cx (oh H r o l) (Bc H+k)=oh H r o (l.take k):=by
 have:=Wu (Bz H r o) l k
 rwa[Br] at this
theorem Br2 (hr:r<Bc H):Cf (oh H r o l) r=some o:=by
 unfold oh
 rw[P5,ap,List.getElem?_append_left (by simpa[Br,Bc] using(show r<Bc (Bz H r o) by rw[Br];exact hr)),←P5]
 exact Co _ hr
theorem Bff (hr:r<Bc H) (o':Ev.Obj):Bz (oh H r o l) r o'=oh H r o' l:=by
 unfold oh
 have:Bc (Bz H r o)=(Bz H r o).length:=rfl
 rw[Ro,ap,ap,List.set_append_left _ _ (by rw[←this,Br];exact hr),←Ro,Ky]
theorem Qn (k g i n:Nat):Ws (Bc H) (oh H r o l) (.slc (Bc H+k) g i n)=(match Cf l k with
  |some (.row g' e xs)=>bif Nat.beq g' g then(if i+n≤xs.length then(match Gq (fz (Bc H) 7 (oh H r o l)) ((xs.drop i).take n) with|some ys=>some (.d (.vals e ys)) |none=>none) else none) else none
  |_=>none):=by
 have:=Be7 (Bz H r o) l k g i n
 rwa[Br] at this
theorem Nq (g i n:Nat):Ws (Bc H) (oh H r o l) (.slc (Bc H) g i n)=(match Cf l 0 with
  |some (.row g' e xs)=>bif Nat.beq g' g then(if i+n≤xs.length then(match Gq (fz (Bc H) 7 (oh H r o l)) ((xs.drop i).take n) with|some ys=>some (.d (.vals e ys)) |none=>none) else none) else none
  |_=>none):=Qn H l r o 0 g i n
theorem Br1 (h:Cf H r=some o):H=oh H r o []:=by
 unfold oh
 rw[Bqx,Ga h]
theorem Xn (l':Hp):ap (oh H r o l) l'=oh H r o ((l:List Ev.Obj)++l'):=by
 unfold oh;rw[Bl7]
end
end Go.Proofs.YtpajcoanfkeibaaGreatDoor.Code

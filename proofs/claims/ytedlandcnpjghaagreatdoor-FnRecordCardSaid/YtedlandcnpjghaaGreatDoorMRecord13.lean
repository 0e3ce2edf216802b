/- Lemmas (several texts in one). -/
import Derived.Test.YtedlandcnpjghaaGreatDoorMRecord7
import Derived.Test.YtedlandcnpjghaaGreatDoorMRecord8
set_option maxRecDepth 100000
set_option linter.unusedSimpArgs false
set_option linter.unusedVariables false
set_option maxHeartbeats 2000000
namespace Go.Proofs.YtedlandcnpjghaaGreatDoor.Code
open Go Go.Ev Go.Proofs
theorem Ga {H:Hp} {r:Nat} {o:Ev.Obj} (h:Ci H r=some o):Bv H r o=H:=by
 induction H generalizing r with
 |nil=>rfl
 |cons a H ih=>
  cases r with
  |zero=>simp only[Ci,Option.some.injEq] at h;subst h;rfl
  |succ r=>exact congrArg (List.cons a) (ih h)
theorem J8 (bs:List Int): ∀ (n:Nat) (p:Int),∀x∈Fz bs n p,x.length≤40
 |0,p=>by simp[Fz]
 |n+1,p=>by
  intro x hx
  simp only[Fz,List.mem_cons] at hx
  rcases hx with rfl|hx
  ·exact Be1 bs p
  ·exact J8 bs n (p+1) x hx
theorem Lv (H:Hp) (r:Nat) (bs:List Int) (q q':Int) (xs:List Bl) {o:Ev.Obj} (h:Ci H r=some o) (hb:Dl bs) (hq:0≤q) (hq2:q≤100000000000) (hq':q'=q+1) (hx:0<xs.length) (hm: ∀x∈xs,x.length≤40):
  ∃t:Bl,t.length≤40∧ev R 34 [.ptr r 0 0 0, .d (Bf xs)] (Bv H r (rd bs q))=some (.d (.str t),Bv H r (rd bs q')):=by
 subst hq'
 have e:=Byu (Bv H r (rd bs q)) r bs q xs (Ch _ (Fh h)) hb hq (by omega) hx
 rw[Jo] at e
 exact⟨_,Ud bs q xs 40 hm,e⟩
theorem Ban (H:Hp) (r:Nat) (bs:List Int) (q q':Int) {o:Ev.Obj} (h:Ci H r=some o) (hb:Dl bs) (hq:0≤q) (hq2:q≤100000000000) (hq':q'=q+1):
  ∃t:Bl,t.length≤40∧ev R 42 [.ptr r 0 0 0] (Bv H r (rd bs q))=some (.d (.str t),Bv H r (rd bs q')):=by
 subst hq'
 have e:=B06 (Bv H r (rd bs q)) r bs q (Ch _ (Fh h)) hb hq (by omega)
 rw[Jo] at e
 exact⟨_,Be1 bs q,e⟩
theorem Bal (H:Hp) (r:Nat) (bs:List Int) (q q' n:Int) {o:Ev.Obj} (h:Ci H r=some o) (hb:Dl bs) (hq:0≤q) (hq2:q≤100000000000) (hq':q'=q+1):
  ev R 21 [.ptr r 0 0 0, .d (.int .i64 n)] (Bv H r (rd bs q))=some (.d (.int .i64 (Db bs q n)),Bv H r (rd bs q')):=by
 subst hq'
 have e:=Bnr (Bv H r (rd bs q)) r bs q n (Ch _ (Fh h)) hb hq (by omega)
 rwa[Jo] at e
theorem Bam (H:Hp) (r:Nat) (bs:List Int) (q q':Int) {o:Ev.Obj} (h:Ci H r=some o) (hb:Dl bs) (hq:0≤q) (hq2:q≤100000000000) (hq':q'=q+1):
  ∃t:Bl,t.length≤40∧ev R 41 [.ptr r 0 0 0] (Bv H r (rd bs q))=some (.d (.str t),Bv H r (rd bs q')):=by
 obtain⟨t,l,e⟩:=Lv H r bs q q' [[107],[108],[115],[122],[104],[107,50],[108]] h hb hq hq2 hq' (by simp) (by simp)
 refine⟨t,l,Bo (fn:=f41) rfl rfl ?_⟩
 have hl:=Lc (Bv H r (rd bs q'))
 rw[Br] at hl
 have hl2:=Br H r (rd bs q)
 simp only[Bf,List.map_cons,List.map_nil] at e
 simp[Ck,-List.getD_eq_getElem?_getD,-List.map_map,f41,e,hl,hl2]
theorem Boa (H:Hp) (r:Nat) (bs:List Int) (q q':Int) {o:Ev.Obj} (h:Ci H r=some o) (hb:Dl bs) (hq:0≤q) (hq2:q≤100000000000) (hq':q'=q+1):
  ∃t:Bl,t.length≤40∧ev R 43 [.ptr r 0 0 0] (Bv H r (rd bs q))=some (.d (.str t),Bv H r (rd bs q')):=by
 obtain⟨t,l,e⟩:=Lv H r bs q q' [[48],[49],[45,49],[50],[45,50],[53],[49,48,48],[45,49,48,48],[49,48,48,48,48,48,48,48,48,48],[120]] h hb hq hq2 hq' (by simp) (by simp)
 refine⟨t,l,Bo (fn:=f43) rfl rfl ?_⟩
 have hl:=Lc (Bv H r (rd bs q'))
 rw[Br] at hl
 have hl2:=Br H r (rd bs q)
 simp only[Bf,List.map_cons,List.map_nil] at e
 simp[Ck,-List.getD_eq_getElem?_getD,-List.map_map,f43,e,hl,hl2]
theorem By0 (H:Hp) (r:Nat) (bs:List Int) (q:Int) (mi:Int) (most:Nat) (hmi:mi=most) (L:List Bl) {o:Ev.Obj} (h:Ci H r=some o) (hb:Dl bs) (hq:0≤q) (hq2:q≤10000000000) (hm:most≤3):
  ∃ (N:Nat) (p9:Int),N≤most∧(q≤p9∧p9≤q+5)∧ev R 44 [.ptr r 0 0 0, .d (.int .i64 mi)] (Bt (Bv H r (rd bs q)) (.row 0 1 ((L.map D.str).map V.d)))=some (.slc (Bc H+1) 0 0 N,Bt (Bt (Bv H r (rd bs p9)) (.row 0 1 ((L.map D.str).map V.d))) (Jc 0 (Fz bs N (q+1)))):=by
 subst hmi
 have hr:=Fh h
 have hg:Ci (Bt (Bv H r (rd bs q)) (.row 0 1 ((L.map D.str).map V.d))) r=some (rd bs q):=by
  rw[D7 _ (by rw[Br];exact hr),Ch _ hr]
 have e:=B3r _ r bs q most hg hb hq (by omega) (by omega)
 obtain⟨k0,k1⟩:=Gp bs q ((most:Int)+1) hb hq (by omega)
 have k1:=k1 (by omega)
 obtain⟨N,hN⟩: ∃N,(Db bs q ((most:Int)+1)).toNat=N:=⟨_,rfl⟩
 rw[hN,Cf,Br,Lm (by rw[Br];exact hr),Jo] at e
 exact⟨N,q+1+N,by omega,by omega,e⟩
theorem Be6 (H X:Hp) (hl:Bc X=Bc H) (ds ts:List Bl) (N:Nat) (hN:ts.length=N):
  Ct (Bt (Bt X (.row 0 1 ((ds.map D.str).map V.d))) (Jc 0 ts)) (Bc H) 0=some (1,(ds.map D.str).map V.d)∧
  R6 (Bt (Bt X (.row 0 1 ((ds.map D.str).map V.d))) (Jc 0 ts)) (.slc (Bc H+1) 0 0 N)=some (1,(ts.map D.str).map V.d,false)∧
  Bv (Bt (Bt X (.row 0 1 ((ds.map D.str).map V.d))) (Jc 0 ts)) (Bc H) (.row 1 1 ((ds.map D.str).map V.d++(ts.map D.str).map V.d))=Bt (Bt X (.row 1 1 ((ds.map D.str).map V.d++(ts.map D.str).map V.d))) (Jc 0 ts)∧
  Wx (Bc H) (Bt (Bt X (.row 1 1 ((ds.map D.str).map V.d++(ts.map D.str).map V.d))) (Jc 0 ts)) (.slc (Bc H) 1 0 (ds.length+N))=some (.d (.vals 1 (ds.map D.str++ts.map D.str)))∧
  Du (Bt (Bt X (.row 1 1 ((ds.map D.str).map V.d++(ts.map D.str).map V.d))) (Jc 0 ts)) (Bc H)=X∧
  ((ts.map D.str).map V.d).all (Sw (Bc H) (Bc H))=true:=by
 subst hN
 rw[←hl]
 refine⟨?_, ?_, ?_, ?_, ?_, ?_⟩
 ·simp only[Ct,D7 _ (show Bc X<Bc (Bt X (.row 0 1 ((ds.map D.str).map V.d))) by rw[Cf];omega),Dr]
  rfl
 ·have hr:Ct (Bt (Bt X (.row 0 1 ((ds.map D.str).map V.d))) (Jc 0 ts)) (Bc X+1) 0=some (1,(ts.map D.str).map V.d):=Ti (by rw[Cf])
  simp only[R6,hr]
  rw[if_pos (by simp),List.drop_zero,List.take_of_length_le (by simp)]
 ·rw[Lm (by rw[Cf];omega),Qr]
 ·have hr:Ct (Bt (Bt X (.row 1 1 ((ds.map D.str).map V.d++(ts.map D.str).map V.d))) (Jc 0 ts)) (Bc X) 1=some (1,(ds.map D.str).map V.d++(ts.map D.str).map V.d):=by
   simp only[Ct,D7 _ (show Bc X<Bc (Bt X (.row 1 1 ((ds.map D.str).map V.d++(ts.map D.str).map V.d))) by rw[Cf];omega),Dr]
   rfl
  have h:=Sm (n:=Bc X) (d:=7) (i:=0) (k:=ds.length+ts.length) (by omega) hr (by simp) (ys:=ds.map D.str++ts.map D.str) (by
   rw[List.drop_zero,List.take_of_length_le (by simp),←List.map_append];exact Wi _)
  show(if Bc X<Bc X then _ else(match fz (Bc X) Qd _ (.slc (Bc X) 1 0 (ds.length+ts.length)) with|some x=>some (V.d x) |none=>none))=_
  rw[if_neg (by omega),show Qd=7+1 from rfl,h]
 ·simp[Du,Bt,Bc]
 ·simp[Sw,K7]
theorem Nt (H X:Hp) (hl:Bc X=Bc H) (ds:List Bl):
  Ct (Bt X (.row 0 1 ((ds.map D.str).map V.d))) (Bc H) 0=some (1,(ds.map D.str).map V.d)∧Du (Bt X (.row 0 1 ((ds.map D.str).map V.d))) (Bc H)=X∧True:=by
 rw[←hl]
 exact⟨G7 _ _ _ _,Ji _ _,trivial⟩
theorem Y9 (H X:Hp) (hl:Bc X=Bc H) (g:Nat) (ys:List V) (o:Ev.Obj):Ct (Bt (Bt X (.row g 1 ys)) o) (Bc H) g=some (1,ys):=by
 rw[←hl]
 simp only[Ct,D7 _ (show Bc X<Bc (Bt X (.row g 1 ys)) by rw[Cf];omega),Dr]
 simp
def Yl (H:Hp) (r:Nat) (bs:List Int) (p:Int):Prop:=
 ∃ (ts:List Bl) (p':Int),ev R 33 [.ptr r 0 0 0] H=some (.slc (Bc H) 0 0 ts.length,Bt (Bv H r (rd bs p')) (Jc 0 ts))∧p≤p'∧p'≤p+20∧1≤ts.length∧ts.length≤8∧∀x∈ts,x.length≤40
theorem B65 (H:Hp) (r:Nat) (bs:List Int) (p:Int) (h:Ci H r=some (rd bs p)) (hb:Dl bs) (hp:0≤p) (hp2:p≤1000000000) (hc:Db bs (p+2) 12=0):Yl H r bs p:=by
 obtain⟨p1,hp1⟩: ∃q,q=p+1:=⟨_,rfl⟩
 obtain⟨p2,hp2'⟩: ∃q,q=p1+1:=⟨_,rfl⟩
 obtain⟨p3,hp3⟩: ∃q,q=p2+1:=⟨_,rfl⟩
 obtain⟨kk,lk,qk⟩:=Bam H r bs p p1 h hb (by omega) (by omega) hp1
 rw[Ga h] at qk
 obtain⟨tt,lt,qt⟩:=Ban H r bs p1 p2 h hb (by omega) (by omega) hp2'
 have qp:=Bal H r bs p2 p3 12 h hb (by omega) (by omega) hp3
 rw[show p2=p+2 by omega] at qp
 rw[hc] at qp
 rw[show p+2=p2 by omega] at qp
 obtain⟨p4,hp4⟩: ∃q,q=p3+1:=⟨_,rfl⟩
 obtain⟨t1,l1,q1⟩:=Lv H r bs p3 p4 [[71,69,84],[83,84,82,76,69,78],[73,78,67,82],[76,80,79,80],[82,80,79,80],[76,76,69,78],[83,77,69,77,66,69,82,83],[83,67,65,82,68],[90,67,65,82,68],[72,71,69,84,65,76,76],[72,76,69,78],[84,89,80,69],[84,84,76],[80,69,82,83,73,83,84]] h hb (by omega) (by omega) hp4 (by simp) (by simp[*])
 simp only[Bf,List.map_cons,List.map_nil] at q1
 refine⟨[t1,kk],p4, ?_,by omega,by omega,by simp,by simp,by simp[*]⟩
 obtain⟨o1,o2,o3⟩:=Nt H (Bv H r (rd bs p4)) (Br _ _ _) [t1,kk]
 refine Bo (fn:=f33) rfl rfl ?_
 have hl:=Br H r (rd bs p4)
 simp only[Jc,List.map_cons,List.map_nil,List.length_cons,List.length_nil,Nat.zero_add,Nat.reduceAdd] at o1 o2⊢
 simp[Ck,-List.getD_eq_getElem?_getD,-List.map_map,f33,qk,qt,qp,q1,hl,o1,o2,Yv]
theorem B66 (H:Hp) (r:Nat) (bs:List Int) (p:Int) (h:Ci H r=some (rd bs p)) (hb:Dl bs) (hp:0≤p) (hp2:p≤1000000000) (hc:Db bs (p+2) 12=1):Yl H r bs p:=by
 obtain⟨p1,hp1⟩: ∃q,q=p+1:=⟨_,rfl⟩
 obtain⟨p2,hp2'⟩: ∃q,q=p1+1:=⟨_,rfl⟩
 obtain⟨p3,hp3⟩: ∃q,q=p2+1:=⟨_,rfl⟩
 obtain⟨kk,lk,qk⟩:=Bam H r bs p p1 h hb (by omega) (by omega) hp1
 rw[Ga h] at qk
 obtain⟨tt,lt,qt⟩:=Ban H r bs p1 p2 h hb (by omega) (by omega) hp2'
 have qp:=Bal H r bs p2 p3 12 h hb (by omega) (by omega) hp3
 rw[show p2=p+2 by omega] at qp
 rw[hc] at qp
 rw[show p+2=p2 by omega] at qp
 obtain⟨p4,hp4⟩: ∃q,q=p3+1:=⟨_,rfl⟩
 obtain⟨t1,l1,q1⟩:=Lv H r bs p3 p4 [[107],[107,50]] h hb (by omega) (by omega) hp4 (by simp) (by simp[*])
 simp only[Bf,List.map_cons,List.map_nil] at q1
 refine⟨[[83,69,84],t1,tt],p4, ?_,by omega,by omega,by simp,by simp,by simp[*]⟩
 obtain⟨o1,o2,o3⟩:=Nt H (Bv H r (rd bs p4)) (Br _ _ _) [[83,69,84],t1,tt]
 refine Bo (fn:=f33) rfl rfl ?_
 have hl:=Br H r (rd bs p4)
 simp only[Jc,List.map_cons,List.map_nil,List.length_cons,List.length_nil,Nat.zero_add,Nat.reduceAdd] at o1 o2⊢
 simp[Ck,-List.getD_eq_getElem?_getD,-List.map_map,f33,qk,qt,qp,q1,hl,o1,o2,Yv]
theorem B67 (H:Hp) (r:Nat) (bs:List Int) (p:Int) (h:Ci H r=some (rd bs p)) (hb:Dl bs) (hp:0≤p) (hp2:p≤1000000000) (hc:Db bs (p+2) 12=2):Yl H r bs p:=by
 obtain⟨p1,hp1⟩: ∃q,q=p+1:=⟨_,rfl⟩
 obtain⟨p2,hp2'⟩: ∃q,q=p1+1:=⟨_,rfl⟩
 obtain⟨p3,hp3⟩: ∃q,q=p2+1:=⟨_,rfl⟩
 obtain⟨kk,lk,qk⟩:=Bam H r bs p p1 h hb (by omega) (by omega) hp1
 rw[Ga h] at qk
 obtain⟨tt,lt,qt⟩:=Ban H r bs p1 p2 h hb (by omega) (by omega) hp2'
 have qp:=Bal H r bs p2 p3 12 h hb (by omega) (by omega) hp3
 rw[show p2=p+2 by omega] at qp
 rw[hc] at qp
 rw[show p+2=p2 by omega] at qp
 obtain⟨p4,hp4⟩: ∃q,q=p3+1:=⟨_,rfl⟩
 obtain⟨t1,l1,q1⟩:=Lv H r bs p3 p4 [[65,80,80,69,78,68],[73,78,67,82,66,89]] h hb (by omega) (by omega) hp4 (by simp) (by simp[*])
 simp only[Bf,List.map_cons,List.map_nil] at q1
 obtain⟨p5,hp5⟩: ∃q,q=p4+1:=⟨_,rfl⟩
 obtain⟨t2,l2,q2⟩:=Lv H r bs p4 p5 [[107],[107,50]] h hb (by omega) (by omega) hp5 (by simp) (by simp[*])
 simp only[Bf,List.map_cons,List.map_nil] at q2
 obtain⟨p6,hp6⟩: ∃q,q=p5+1:=⟨_,rfl⟩
 obtain⟨t3,l3,q3⟩:=Boa H r bs p5 p6 h hb (by omega) (by omega) hp6
 obtain⟨p7,hp7⟩: ∃q,q=p6+1:=⟨_,rfl⟩
 obtain⟨t4,l4,q4⟩:=Lv H r bs p6 p7 [tt,t3] h hb (by omega) (by omega) hp7 (by simp) (by simp[*])
 simp only[Bf,List.map_cons,List.map_nil] at q4
 refine⟨[t1,t2,t4],p7, ?_,by omega,by omega,by simp,by simp,by simp[*]⟩
 obtain⟨o1,o2,o3⟩:=Nt H (Bv H r (rd bs p7)) (Br _ _ _) [t1,t2,t4]
 refine Bo (fn:=f33) rfl rfl ?_
 have hl:=Br H r (rd bs p7)
 simp only[Jc,List.map_cons,List.map_nil,List.length_cons,List.length_nil,Nat.zero_add,Nat.reduceAdd] at o1 o2⊢
 simp[Ck,-List.getD_eq_getElem?_getD,-List.map_map,f33,qk,qt,qp,q1,q2,q3,q4,hl,o1,o2,Yv]
theorem B68 (H:Hp) (r:Nat) (bs:List Int) (p:Int) (h:Ci H r=some (rd bs p)) (hb:Dl bs) (hp:0≤p) (hp2:p≤1000000000) (hc:Db bs (p+2) 12=3):Yl H r bs p:=by
 obtain⟨p1,hp1⟩: ∃q,q=p+1:=⟨_,rfl⟩
 obtain⟨p2,hp2'⟩: ∃q,q=p1+1:=⟨_,rfl⟩
 obtain⟨p3,hp3⟩: ∃q,q=p2+1:=⟨_,rfl⟩
 obtain⟨kk,lk,qk⟩:=Bam H r bs p p1 h hb (by omega) (by omega) hp1
 rw[Ga h] at qk
 obtain⟨tt,lt,qt⟩:=Ban H r bs p1 p2 h hb (by omega) (by omega) hp2'
 have qp:=Bal H r bs p2 p3 12 h hb (by omega) (by omega) hp3
 rw[show p2=p+2 by omega] at qp
 rw[hc] at qp
 rw[show p+2=p2 by omega] at qp
 obtain⟨p4,hp4⟩: ∃q,q=p3+1:=⟨_,rfl⟩
 obtain⟨t1,l1,q1⟩:=Lv H r bs p3 p4 [[76,80,85,83,72],[82,80,85,83,72]] h hb (by omega) (by omega) hp4 (by simp) (by simp[*])
 simp only[Bf,List.map_cons,List.map_nil] at q1
 obtain⟨p5,hp5⟩: ∃q,q=p4+1:=⟨_,rfl⟩
 obtain⟨t2,l2,q2⟩:=Lv H r bs p4 p5 [[108],[108],[107]] h hb (by omega) (by omega) hp5 (by simp) (by simp[*])
 simp only[Bf,List.map_cons,List.map_nil] at q2
 obtain⟨N,p9,nl,pl,q9⟩:=By0 H r bs p5 3 3 rfl ([t1,t2,tt]:List Bl) h hb (by omega) (by omega) (by omega)
 obtain⟨a1,a2,a3,a4,a5,a6⟩:=Be6 H (Bv H r (rd bs p9)) (Br _ _ _) [t1,t2,tt] (Fz bs N (p5+1)) N (Le bs N (p5+1))
 have tl:=Le bs N (p5+1)
 refine⟨[t1,t2,tt]++Fz bs N (p5+1),p9, ?_,by omega,by omega,by simp,by simp[tl];omega,fun x hx=> ?_⟩
 ·refine Bo (fn:=f33) rfl rfl ?_
  have sh:=J8 bs N (p5+1)
  clear sh
  generalize Fz bs N (p5+1)=ts at a1 a2 a3 a4 a5 a6 q9 tl⊢
  simp only[List.map_cons,List.map_nil,List.cons_append,List.nil_append,List.length_cons,List.length_nil,Bf,Nat.zero_add,Nat.reduceAdd] at a1 a2 a3 a4 a5 a6 q9⊢
  have rm: (N+3)*16≤Cx:=by unfold Cx;omega
  have rm2: (3+N)*16≤Cx:=by unfold Cx;omega
  have hl:=Br H r (rd bs p5)
  have aD:=Bbb (ts.map D.str)
  have r1: ∀ys:List V,Ct (Bt (Bt (Bv H r (rd bs p9)) (.row 1 1 ys)) (Jc 0 ts)) (Bc H) 1=some (1,ys):=fun ys=>Y9 H (Bv H r (rd bs p9)) (Br _ _ _) 1 ys (Jc 0 ts)
  have hl9:=Br H r (rd bs p9)
  show _=some (V.slc (Bc H) 0 0 _,Bt (Bv H r (rd bs p9)) (.row 0 1 _))
  simp only[List.length_cons,List.length_nil,List.length_append,tl,Nat.zero_add,Nat.reduceAdd,List.map_cons,List.map_nil,List.cons_append,List.nil_append]
  simp[Ck,-List.getD_eq_getElem?_getD,-List.map_map,f33,qk,qt,qp,q1,q2,hl,hl9,q9,a1,a2,a3,a5,a6,rm,rm2,tl,aD,r1,Yv]
  omega
 ·rcases List.mem_append.1 hx with hx|hx
  ·simp only[List.mem_cons,List.not_mem_nil,or_false] at hx
   rcases hx with rfl|rfl|rfl<;>assumption
  ·exact J8 bs N (p5+1) x hx
theorem B69 (H:Hp) (r:Nat) (bs:List Int) (p:Int) (h:Ci H r=some (rd bs p)) (hb:Dl bs) (hp:0≤p) (hp2:p≤1000000000) (hc:Db bs (p+2) 12=4):Yl H r bs p:=by
 obtain⟨p1,hp1⟩: ∃q,q=p+1:=⟨_,rfl⟩
 obtain⟨p2,hp2'⟩: ∃q,q=p1+1:=⟨_,rfl⟩
 obtain⟨p3,hp3⟩: ∃q,q=p2+1:=⟨_,rfl⟩
 obtain⟨kk,lk,qk⟩:=Bam H r bs p p1 h hb (by omega) (by omega) hp1
 rw[Ga h] at qk
 obtain⟨tt,lt,qt⟩:=Ban H r bs p1 p2 h hb (by omega) (by omega) hp2'
 have qp:=Bal H r bs p2 p3 12 h hb (by omega) (by omega) hp3
 rw[show p2=p+2 by omega] at qp
 rw[hc] at qp
 rw[show p+2=p2 by omega] at qp
 obtain⟨p4,hp4⟩: ∃q,q=p3+1:=⟨_,rfl⟩
 obtain⟨t1,l1,q1⟩:=Lv H r bs p3 p4 [[76,82,65,78,71,69],[76,84,82,73,77],[76,83,69,84],[76,82,69,77],[71,69,84,82,65,78,71,69]] h hb (by omega) (by omega) hp4 (by simp) (by simp[*])
 simp only[Bf,List.map_cons,List.map_nil] at q1
 obtain⟨p5,hp5⟩: ∃q,q=p4+1:=⟨_,rfl⟩
 obtain⟨t2,l2,q2⟩:=Lv H r bs p4 p5 [[108],[108],[107]] h hb (by omega) (by omega) hp5 (by simp) (by simp[*])
 simp only[Bf,List.map_cons,List.map_nil] at q2
 obtain⟨p6,hp6⟩: ∃q,q=p5+1:=⟨_,rfl⟩
 obtain⟨t3,l3,q3⟩:=Boa H r bs p5 p6 h hb (by omega) (by omega) hp6
 obtain⟨p7,hp7⟩: ∃q,q=p6+1:=⟨_,rfl⟩
 obtain⟨t4,l4,q4⟩:=Boa H r bs p6 p7 h hb (by omega) (by omega) hp7
 obtain⟨p8,hp8⟩: ∃q,q=p7+1:=⟨_,rfl⟩
 obtain⟨t5,l5,q5⟩:=Lv H r bs p7 p8 [t4,tt] h hb (by omega) (by omega) hp8 (by simp) (by simp[*])
 simp only[Bf,List.map_cons,List.map_nil] at q5
 refine⟨[t1,t2,t3,t5],p8, ?_,by omega,by omega,by simp,by simp,by simp[*]⟩
 obtain⟨o1,o2,o3⟩:=Nt H (Bv H r (rd bs p8)) (Br _ _ _) [t1,t2,t3,t5]
 refine Bo (fn:=f33) rfl rfl ?_
 have hl:=Br H r (rd bs p8)
 simp only[Jc,List.map_cons,List.map_nil,List.length_cons,List.length_nil,Nat.zero_add,Nat.reduceAdd] at o1 o2⊢
 simp[Ck,-List.getD_eq_getElem?_getD,-List.map_map,f33,qk,qt,qp,q1,q2,q3,q4,q5,hl,o1,o2,Yv]
theorem B7a (H:Hp) (r:Nat) (bs:List Int) (p:Int) (h:Ci H r=some (rd bs p)) (hb:Dl bs) (hp:0≤p) (hp2:p≤1000000000) (hc:Db bs (p+2) 12=5):Yl H r bs p:=by
 obtain⟨p1,hp1⟩: ∃q,q=p+1:=⟨_,rfl⟩
 obtain⟨p2,hp2'⟩: ∃q,q=p1+1:=⟨_,rfl⟩
 obtain⟨p3,hp3⟩: ∃q,q=p2+1:=⟨_,rfl⟩
 obtain⟨kk,lk,qk⟩:=Bam H r bs p p1 h hb (by omega) (by omega) hp1
 rw[Ga h] at qk
 obtain⟨tt,lt,qt⟩:=Ban H r bs p1 p2 h hb (by omega) (by omega) hp2'
 have qp:=Bal H r bs p2 p3 12 h hb (by omega) (by omega) hp3
 rw[show p2=p+2 by omega] at qp
 rw[hc] at qp
 rw[show p+2=p2 by omega] at qp
 obtain⟨p4,hp4⟩: ∃q,q=p3+1:=⟨_,rfl⟩
 obtain⟨t1,l1,q1⟩:=Lv H r bs p3 p4 [[83,65,68,68],[83,65,68,68],[83,82,69,77]] h hb (by omega) (by omega) hp4 (by simp) (by simp[*])
 simp only[Bf,List.map_cons,List.map_nil] at q1
 obtain⟨p5,hp5⟩: ∃q,q=p4+1:=⟨_,rfl⟩
 obtain⟨t2,l2,q2⟩:=Lv H r bs p4 p5 [[115],[115,50]] h hb (by omega) (by omega) hp5 (by simp) (by simp[*])
 simp only[Bf,List.map_cons,List.map_nil] at q2
 obtain⟨N,p9,nl,pl,q9⟩:=By0 H r bs p5 2 2 rfl ([t1,t2,tt]:List Bl) h hb (by omega) (by omega) (by omega)
 obtain⟨a1,a2,a3,a4,a5,a6⟩:=Be6 H (Bv H r (rd bs p9)) (Br _ _ _) [t1,t2,tt] (Fz bs N (p5+1)) N (Le bs N (p5+1))
 have tl:=Le bs N (p5+1)
 refine⟨[t1,t2,tt]++Fz bs N (p5+1),p9, ?_,by omega,by omega,by simp,by simp[tl];omega,fun x hx=> ?_⟩
 ·refine Bo (fn:=f33) rfl rfl ?_
  have sh:=J8 bs N (p5+1)
  clear sh
  generalize Fz bs N (p5+1)=ts at a1 a2 a3 a4 a5 a6 q9 tl⊢
  simp only[List.map_cons,List.map_nil,List.cons_append,List.nil_append,List.length_cons,List.length_nil,Bf,Nat.zero_add,Nat.reduceAdd] at a1 a2 a3 a4 a5 a6 q9⊢
  have rm: (N+3)*16≤Cx:=by unfold Cx;omega
  have rm2: (3+N)*16≤Cx:=by unfold Cx;omega
  have hl:=Br H r (rd bs p5)
  have aD:=Bbb (ts.map D.str)
  have r1: ∀ys:List V,Ct (Bt (Bt (Bv H r (rd bs p9)) (.row 1 1 ys)) (Jc 0 ts)) (Bc H) 1=some (1,ys):=fun ys=>Y9 H (Bv H r (rd bs p9)) (Br _ _ _) 1 ys (Jc 0 ts)
  have hl9:=Br H r (rd bs p9)
  show _=some (V.slc (Bc H) 0 0 _,Bt (Bv H r (rd bs p9)) (.row 0 1 _))
  simp only[List.length_cons,List.length_nil,List.length_append,tl,Nat.zero_add,Nat.reduceAdd,List.map_cons,List.map_nil,List.cons_append,List.nil_append]
  simp[Ck,-List.getD_eq_getElem?_getD,-List.map_map,f33,qk,qt,qp,q1,q2,hl,hl9,q9,a1,a2,a3,a5,a6,rm,rm2,tl,aD,r1,Yv]
  omega
 ·rcases List.mem_append.1 hx with hx|hx
  ·simp only[List.mem_cons,List.not_mem_nil,or_false] at hx
   rcases hx with rfl|rfl|rfl<;>assumption
  ·exact J8 bs N (p5+1) x hx
theorem B7e (H:Hp) (r:Nat) (bs:List Int) (p:Int) (h:Ci H r=some (rd bs p)) (hb:Dl bs) (hp:0≤p) (hp2:p≤1000000000) (hc:Db bs (p+2) 12=6):Yl H r bs p:=by
 obtain⟨p1,hp1⟩: ∃q,q=p+1:=⟨_,rfl⟩
 obtain⟨p2,hp2'⟩: ∃q,q=p1+1:=⟨_,rfl⟩
 obtain⟨p3,hp3⟩: ∃q,q=p2+1:=⟨_,rfl⟩
 obtain⟨kk,lk,qk⟩:=Bam H r bs p p1 h hb (by omega) (by omega) hp1
 rw[Ga h] at qk
 obtain⟨tt,lt,qt⟩:=Ban H r bs p1 p2 h hb (by omega) (by omega) hp2'
 have qp:=Bal H r bs p2 p3 12 h hb (by omega) (by omega) hp3
 rw[show p2=p+2 by omega] at qp
 rw[hc] at qp
 rw[show p+2=p2 by omega] at qp
 obtain⟨p4,hp4⟩: ∃q,q=p3+1:=⟨_,rfl⟩
 obtain⟨t1,l1,q1⟩:=Lv H r bs p3 p4 [[83,73,83,77,69,77,66,69,82],[83,73,78,84,69,82],[83,85,78,73,79,78],[83,68,73,70,70]] h hb (by omega) (by omega) hp4 (by simp) (by simp[*])
 simp only[Bf,List.map_cons,List.map_nil] at q1
 obtain⟨p5,hp5⟩: ∃q,q=p4+1:=⟨_,rfl⟩
 obtain⟨t2,l2,q2⟩:=Lv H r bs p4 p5 [[115],[115,50]] h hb (by omega) (by omega) hp5 (by simp) (by simp[*])
 simp only[Bf,List.map_cons,List.map_nil] at q2
 obtain⟨p6,hp6⟩: ∃q,q=p5+1:=⟨_,rfl⟩
 obtain⟨t3,l3,q3⟩:=Lv H r bs p5 p6 [[115],[115,50],tt] h hb (by omega) (by omega) hp6 (by simp) (by simp[*])
 simp only[Bf,List.map_cons,List.map_nil] at q3
 refine⟨[t1,t2,t3],p6, ?_,by omega,by omega,by simp,by simp,by simp[*]⟩
 obtain⟨o1,o2,o3⟩:=Nt H (Bv H r (rd bs p6)) (Br _ _ _) [t1,t2,t3]
 refine Bo (fn:=f33) rfl rfl ?_
 have hl:=Br H r (rd bs p6)
 simp only[Jc,List.map_cons,List.map_nil,List.length_cons,List.length_nil,Nat.zero_add,Nat.reduceAdd] at o1 o2⊢
 simp[Ck,-List.getD_eq_getElem?_getD,-List.map_map,f33,qk,qt,qp,q1,q2,q3,hl,o1,o2,Yv]
theorem B7f (H:Hp) (r:Nat) (bs:List Int) (p:Int) (h:Ci H r=some (rd bs p)) (hb:Dl bs) (hp:0≤p) (hp2:p≤1000000000) (hc:Db bs (p+2) 12=7):Yl H r bs p:=by
 obtain⟨p1,hp1⟩: ∃q,q=p+1:=⟨_,rfl⟩
 obtain⟨p2,hp2'⟩: ∃q,q=p1+1:=⟨_,rfl⟩
 obtain⟨p3,hp3⟩: ∃q,q=p2+1:=⟨_,rfl⟩
 obtain⟨kk,lk,qk⟩:=Bam H r bs p p1 h hb (by omega) (by omega) hp1
 rw[Ga h] at qk
 obtain⟨tt,lt,qt⟩:=Ban H r bs p1 p2 h hb (by omega) (by omega) hp2'
 have qp:=Bal H r bs p2 p3 12 h hb (by omega) (by omega) hp3
 rw[show p2=p+2 by omega] at qp
 rw[hc] at qp
 rw[show p+2=p2 by omega] at qp
 obtain⟨p4,hp4⟩: ∃q,q=p3+1:=⟨_,rfl⟩
 obtain⟨t1,l1,q1⟩:=Lv H r bs p3 p4 [[90,65,68,68],[90,65,68,68],[90,73,78,67,82,66,89],[90,82,65,78,71,69],[90,82,65,78,71,69,66,89,83,67,79,82,69]] h hb (by omega) (by omega) hp4 (by simp) (by simp[*])
 simp only[Bf,List.map_cons,List.map_nil] at q1
 obtain⟨p5,hp5⟩: ∃q,q=p4+1:=⟨_,rfl⟩
 obtain⟨t2,l2,q2⟩:=Boa H r bs p4 p5 h hb (by omega) (by omega) hp5
 obtain⟨p6,hp6⟩: ∃q,q=p5+1:=⟨_,rfl⟩
 obtain⟨t3,l3,q3⟩:=Boa H r bs p5 p6 h hb (by omega) (by omega) hp6
 obtain⟨p7,hp7⟩: ∃q,q=p6+1:=⟨_,rfl⟩
 obtain⟨t4,l4,q4⟩:=Lv H r bs p6 p7 [tt,t3] h hb (by omega) (by omega) hp7 (by simp) (by simp[*])
 simp only[Bf,List.map_cons,List.map_nil] at q4
 refine⟨[t1,[122],t2,t4],p7, ?_,by omega,by omega,by simp,by simp,by simp[*]⟩
 obtain⟨o1,o2,o3⟩:=Nt H (Bv H r (rd bs p7)) (Br _ _ _) [t1,[122],t2,t4]
 refine Bo (fn:=f33) rfl rfl ?_
 have hl:=Br H r (rd bs p7)
 simp only[Jc,List.map_cons,List.map_nil,List.length_cons,List.length_nil,Nat.zero_add,Nat.reduceAdd] at o1 o2⊢
 simp[Ck,-List.getD_eq_getElem?_getD,-List.map_map,f33,qk,qt,qp,q1,q2,q3,q4,hl,o1,o2,Yv]
theorem B7g (H:Hp) (r:Nat) (bs:List Int) (p:Int) (h:Ci H r=some (rd bs p)) (hb:Dl bs) (hp:0≤p) (hp2:p≤1000000000) (hc:Db bs (p+2) 12=8):Yl H r bs p:=by
 obtain⟨p1,hp1⟩: ∃q,q=p+1:=⟨_,rfl⟩
 obtain⟨p2,hp2'⟩: ∃q,q=p1+1:=⟨_,rfl⟩
 obtain⟨p3,hp3⟩: ∃q,q=p2+1:=⟨_,rfl⟩
 obtain⟨kk,lk,qk⟩:=Bam H r bs p p1 h hb (by omega) (by omega) hp1
 rw[Ga h] at qk
 obtain⟨tt,lt,qt⟩:=Ban H r bs p1 p2 h hb (by omega) (by omega) hp2'
 have qp:=Bal H r bs p2 p3 12 h hb (by omega) (by omega) hp3
 rw[show p2=p+2 by omega] at qp
 rw[hc] at qp
 rw[show p+2=p2 by omega] at qp
 obtain⟨p4,hp4⟩: ∃q,q=p3+1:=⟨_,rfl⟩
 obtain⟨t1,l1,q1⟩:=Lv H r bs p3 p4 [[90,82,69,77],[90,83,67,79,82,69],[90,82,65,78,75],[72,71,69,84],[72,68,69,76]] h hb (by omega) (by omega) hp4 (by simp) (by simp[*])
 simp only[Bf,List.map_cons,List.map_nil] at q1
 obtain⟨p5,hp5⟩: ∃q,q=p4+1:=⟨_,rfl⟩
 obtain⟨t2,l2,q2⟩:=Lv H r bs p4 p5 [[122],[104]] h hb (by omega) (by omega) hp5 (by simp) (by simp[*])
 simp only[Bf,List.map_cons,List.map_nil] at q2
 refine⟨[t1,t2,tt],p5, ?_,by omega,by omega,by simp,by simp,by simp[*]⟩
 obtain⟨o1,o2,o3⟩:=Nt H (Bv H r (rd bs p5)) (Br _ _ _) [t1,t2,tt]
 refine Bo (fn:=f33) rfl rfl ?_
 have hl:=Br H r (rd bs p5)
 simp only[Jc,List.map_cons,List.map_nil,List.length_cons,List.length_nil,Nat.zero_add,Nat.reduceAdd] at o1 o2⊢
 simp[Ck,-List.getD_eq_getElem?_getD,-List.map_map,f33,qk,qt,qp,q1,q2,hl,o1,o2,Yv]
theorem B7h (H:Hp) (r:Nat) (bs:List Int) (p:Int) (h:Ci H r=some (rd bs p)) (hb:Dl bs) (hp:0≤p) (hp2:p≤1000000000) (hc:Db bs (p+2) 12=9):Yl H r bs p:=by
 obtain⟨p1,hp1⟩: ∃q,q=p+1:=⟨_,rfl⟩
 obtain⟨p2,hp2'⟩: ∃q,q=p1+1:=⟨_,rfl⟩
 obtain⟨p3,hp3⟩: ∃q,q=p2+1:=⟨_,rfl⟩
 obtain⟨kk,lk,qk⟩:=Bam H r bs p p1 h hb (by omega) (by omega) hp1
 rw[Ga h] at qk
 obtain⟨tt,lt,qt⟩:=Ban H r bs p1 p2 h hb (by omega) (by omega) hp2'
 have qp:=Bal H r bs p2 p3 12 h hb (by omega) (by omega) hp3
 rw[show p2=p+2 by omega] at qp
 rw[hc] at qp
 rw[show p+2=p2 by omega] at qp
 obtain⟨p4,hp4⟩: ∃q,q=p3+1:=⟨_,rfl⟩
 obtain⟨t1,l1,q1⟩:=Lv H r bs p3 p4 [[72,83,69,84],[72,83,69,84],[72,73,78,67,82,66,89]] h hb (by omega) (by omega) hp4 (by simp) (by simp[*])
 simp only[Bf,List.map_cons,List.map_nil] at q1
 obtain⟨p5,hp5⟩: ∃q,q=p4+1:=⟨_,rfl⟩
 obtain⟨t2,l2,q2⟩:=Lv H r bs p4 p5 [[97],[98],tt] h hb (by omega) (by omega) hp5 (by simp) (by simp[*])
 simp only[Bf,List.map_cons,List.map_nil] at q2
 obtain⟨p6,hp6⟩: ∃q,q=p5+1:=⟨_,rfl⟩
 obtain⟨t3,l3,q3⟩:=Boa H r bs p5 p6 h hb (by omega) (by omega) hp6
 obtain⟨p7,hp7⟩: ∃q,q=p6+1:=⟨_,rfl⟩
 obtain⟨t4,l4,q4⟩:=Lv H r bs p6 p7 [tt,t3] h hb (by omega) (by omega) hp7 (by simp) (by simp[*])
 simp only[Bf,List.map_cons,List.map_nil] at q4
 refine⟨[t1,[104],t2,t4],p7, ?_,by omega,by omega,by simp,by simp,by simp[*]⟩
 obtain⟨o1,o2,o3⟩:=Nt H (Bv H r (rd bs p7)) (Br _ _ _) [t1,[104],t2,t4]
 refine Bo (fn:=f33) rfl rfl ?_
 have hl:=Br H r (rd bs p7)
 simp only[Jc,List.map_cons,List.map_nil,List.length_cons,List.length_nil,Nat.zero_add,Nat.reduceAdd] at o1 o2⊢
 simp[Ck,-List.getD_eq_getElem?_getD,-List.map_map,f33,qk,qt,qp,q1,q2,q3,q4,hl,o1,o2,Yv]
theorem B25 (H:Hp) (r:Nat) (bs:List Int) (p:Int) (h:Ci H r=some (rd bs p)) (hb:Dl bs) (hp:0≤p) (hp2:p≤1000000000) (hc:Db bs (p+2) 12=10):Yl H r bs p:=by
 obtain⟨p1,hp1⟩: ∃q,q=p+1:=⟨_,rfl⟩
 obtain⟨p2,hp2'⟩: ∃q,q=p1+1:=⟨_,rfl⟩
 obtain⟨p3,hp3⟩: ∃q,q=p2+1:=⟨_,rfl⟩
 obtain⟨kk,lk,qk⟩:=Bam H r bs p p1 h hb (by omega) (by omega) hp1
 rw[Ga h] at qk
 obtain⟨tt,lt,qt⟩:=Ban H r bs p1 p2 h hb (by omega) (by omega) hp2'
 have qp:=Bal H r bs p2 p3 12 h hb (by omega) (by omega) hp3
 rw[show p2=p+2 by omega] at qp
 rw[hc] at qp
 rw[show p+2=p2 by omega] at qp
 obtain⟨p4,hp4⟩: ∃q,q=p3+1:=⟨_,rfl⟩
 obtain⟨t1,l1,q1⟩:=Lv H r bs p3 p4 [[69,88,80,73,82,69],[69,88,80,73,82,69,65,84],[82,69,78,65,77,69]] h hb (by omega) (by omega) hp4 (by simp) (by simp[*])
 simp only[Bf,List.map_cons,List.map_nil] at q1
 obtain⟨p5,hp5⟩: ∃q,q=p4+1:=⟨_,rfl⟩
 obtain⟨t2,l2,q2⟩:=Lv H r bs p4 p5 [[53],[49],[49,48,48],[107],[108],[107,50],[45,49],[49,48,48,48,48,48,49]] h hb (by omega) (by omega) hp5 (by simp) (by simp[*])
 simp only[Bf,List.map_cons,List.map_nil] at q2
 refine⟨[t1,kk,t2],p5, ?_,by omega,by omega,by simp,by simp,by simp[*]⟩
 obtain⟨o1,o2,o3⟩:=Nt H (Bv H r (rd bs p5)) (Br _ _ _) [t1,kk,t2]
 refine Bo (fn:=f33) rfl rfl ?_
 have hl:=Br H r (rd bs p5)
 simp only[Jc,List.map_cons,List.map_nil,List.length_cons,List.length_nil,Nat.zero_add,Nat.reduceAdd] at o1 o2⊢
 simp[Ck,-List.getD_eq_getElem?_getD,-List.map_map,f33,qk,qt,qp,q1,q2,hl,o1,o2,Yv]
theorem B26 (H:Hp) (r:Nat) (bs:List Int) (p:Int) (h:Ci H r=some (rd bs p)) (hb:Dl bs) (hp:0≤p) (hp2:p≤1000000000) (hc:11≤Db bs (p+2) 12):Yl H r bs p:=by
 obtain⟨p1,hp1⟩: ∃q,q=p+1:=⟨_,rfl⟩
 obtain⟨p2,hp2'⟩: ∃q,q=p1+1:=⟨_,rfl⟩
 obtain⟨p3,hp3⟩: ∃q,q=p2+1:=⟨_,rfl⟩
 obtain⟨kk,lk,qk⟩:=Bam H r bs p p1 h hb (by omega) (by omega) hp1
 rw[Ga h] at qk
 obtain⟨tt,lt,qt⟩:=Ban H r bs p1 p2 h hb (by omega) (by omega) hp2'
 have qp:=Bal H r bs p2 p3 12 h hb (by omega) (by omega) hp3
 rw[show p2=p+2 by omega] at qp
 obtain⟨_,pm⟩:=Gp bs (p+2) 12 hb (by omega) (by omega)
 have pm:=pm (by omega)
 rw[show Db bs (p+2) 12=11 by omega] at qp
 rw[show p+2=p2 by omega] at qp
 obtain⟨p4,hp4⟩: ∃q,q=p3+1:=⟨_,rfl⟩
 obtain⟨t1,l1,q1⟩:=Lv H r bs p3 p4 [[68,69,76],[69,88,73,83,84,83],[75,69,89,83],[68,66,83,73,90,69],[70,76,85,83,72],[78,79,78,69],[68,69,76]] h hb (by omega) (by omega) hp4 (by simp) (by simp[*])
 simp only[Bf,List.map_cons,List.map_nil] at q1
 obtain⟨p5,hp5⟩: ∃q,q=p4+1:=⟨_,rfl⟩
 obtain⟨t2,l2,q2⟩:=Lv H r bs p4 p5 [kk,[42],[63],[107,42],[]] h hb (by omega) (by omega) hp5 (by simp) (by simp[*])
 simp only[Bf,List.map_cons,List.map_nil] at q2
 obtain⟨N,p9,nl,pl,q9⟩:=By0 H r bs p5 1 1 rfl ([t1,t2]:List Bl) h hb (by omega) (by omega) (by omega)
 obtain⟨a1,a2,a3,a4,a5,a6⟩:=Be6 H (Bv H r (rd bs p9)) (Br _ _ _) [t1,t2] (Fz bs N (p5+1)) N (Le bs N (p5+1))
 have tl:=Le bs N (p5+1)
 refine⟨[t1,t2]++Fz bs N (p5+1),p9, ?_,by omega,by omega,by simp,by simp[tl];omega,fun x hx=> ?_⟩
 ·refine Bo (fn:=f33) rfl rfl ?_
  have sh:=J8 bs N (p5+1)
  clear sh
  generalize Fz bs N (p5+1)=ts at a1 a2 a3 a4 a5 a6 q9 tl⊢
  simp only[List.map_cons,List.map_nil,List.cons_append,List.nil_append,List.length_cons,List.length_nil,Bf,Nat.zero_add,Nat.reduceAdd] at a1 a2 a3 a4 a5 a6 q9⊢
  have rm: (N+2)*16≤Cx:=by unfold Cx;omega
  have rm2: (2+N)*16≤Cx:=by unfold Cx;omega
  have hl:=Br H r (rd bs p5)
  have aD:=Bbb (ts.map D.str)
  have r1: ∀ys:List V,Ct (Bt (Bt (Bv H r (rd bs p9)) (.row 1 1 ys)) (Jc 0 ts)) (Bc H) 1=some (1,ys):=fun ys=>Y9 H (Bv H r (rd bs p9)) (Br _ _ _) 1 ys (Jc 0 ts)
  have hl9:=Br H r (rd bs p9)
  show _=some (V.slc (Bc H) 0 0 _,Bt (Bv H r (rd bs p9)) (.row 0 1 _))
  simp only[List.length_cons,List.length_nil,List.length_append,tl,Nat.zero_add,Nat.reduceAdd,List.map_cons,List.map_nil,List.cons_append,List.nil_append]
  simp[Ck,-List.getD_eq_getElem?_getD,-List.map_map,f33,qk,qt,qp,q1,q2,hl,hl9,q9,a1,a2,a3,a5,a6,rm,rm2,tl,aD,r1,Yv]
  omega
 ·rcases List.mem_append.1 hx with hx|hx
  ·simp only[List.mem_cons,List.not_mem_nil,or_false] at hx
   rcases hx with rfl|rfl<;>assumption
  ·exact J8 bs N (p5+1) x hx
theorem B3o (H:Hp) (r:Nat) (bs:List Int) (p:Int) (h:Ci H r=some (rd bs p)) (hb:Dl bs) (hp:0≤p) (hp2:p≤1000000000):Yl H r bs p:=by
 obtain⟨k0,k1⟩:=Gp bs (p+2) 12 hb (by omega) (by omega)
 have k1:=k1 (by omega)
 have c:Db bs (p+2) 12=0∨Db bs (p+2) 12=1∨Db bs (p+2) 12=2∨Db bs (p+2) 12=3∨Db bs (p+2) 12=4∨Db bs (p+2) 12=5∨Db bs (p+2) 12=6∨Db bs (p+2) 12=7∨Db bs (p+2) 12=8∨Db bs (p+2) 12=9∨Db bs (p+2) 12=10∨11≤Db bs (p+2) 12:=by omega
 rcases c with c|c|c|c|c|c|c|c|c|c|c|c
 ·exact B65 H r bs p h hb hp hp2 c
 ·exact B66 H r bs p h hb hp hp2 c
 ·exact B67 H r bs p h hb hp hp2 c
 ·exact B68 H r bs p h hb hp hp2 c
 ·exact B69 H r bs p h hb hp hp2 c
 ·exact B7a H r bs p h hb hp hp2 c
 ·exact B7e H r bs p h hb hp hp2 c
 ·exact B7f H r bs p h hb hp hp2 c
 ·exact B7g H r bs p h hb hp hp2 c
 ·exact B7h H r bs p h hb hp hp2 c
 ·exact B25 H r bs p h hb hp hp2 c
 ·exact B26 H r bs p h hb hp hp2 c
def rh (H:Hp) (r:Nat) (bs:List Int) (q:Int) (l:Hp):Hp:=ap (Bv H r (rd bs q)) l
section
variable (H l:Hp) (r:Nat) (bs:List Int) (q:Int)
theorem Dj (o:Ev.Obj):Bt (rh H r bs q l) o=rh H r bs q ((l:List Ev.Obj)++[o]):=Bum _ _ _
theorem D9:Bc (rh H r bs q l)=Bc H+l.length:=by unfold rh;rw[Be5,Br]
theorem D5 (k:Nat):Ci (rh H r bs q l) (Bc H+k)=Ci l k:=by
 have:=R9 (Bv H r (rd bs q)) l k
 rwa[Br] at this
theorem Dn:Ci (rh H r bs q l) (Bc H)=Ci l 0:=D5 H l r bs q 0
theorem Fa (k:Nat) (o:Ev.Obj):Bv (rh H r bs q l) (Bc H+k) o=rh H r bs q (Bv l k o):=by
 have:=Yn (Bv H r (rd bs q)) l k o
 rwa[Br] at this
theorem Dp (o:Ev.Obj):Bv (rh H r bs q l) (Bc H) o=rh H r bs q (Bv l 0 o):=Fa H l r bs q 0 o
theorem Cw:Du (rh H r bs q l) (Bc H)=Bv H r (rd bs q):=by
 have:=W9 (Bv H r (rd bs q)) l
 rwa[Br] at this
theorem Cs (k:Nat):Du (rh H r bs q l) (Bc H+k)=rh H r bs q (l.take k):=by
 have:=Bgj (Bv H r (rd bs q)) l k
 rwa[Br] at this
theorem Biq (hr:r<Bc H):Ci (rh H r bs q l) r=some (rd bs q):=by
 unfold rh
 rw[Xq,ap,List.getElem?_append_left (by simpa[Br,Bc] using(show r<Bc (Bv H r (rd bs q)) by rw[Br];exact hr)),←Xq]
 exact Ch _ hr
theorem Bf0 (hr:r<Bc H) (q':Int):Bv (rh H r bs q l) r (rd bs q')=rh H r bs q' l:=by
 unfold rh
 have:Bc (Bv H r (rd bs q))=(Bv H r (rd bs q)).length:=rfl
 rw[Xr,ap,ap,List.set_append_left _ _ (by rw[←this,Br];exact hr),←Xr,Jo]
theorem D8 (k g i n:Nat):Wx (Bc H) (rh H r bs q l) (.slc (Bc H+k) g i n)=(match Ci l k with
  |some (.row g' e xs)=>bif Nat.beq g' g then(if i+n≤xs.length then(match Gv (fz (Bc H) 7 (rh H r bs q l)) ((xs.drop i).take n) with|some ys=>some (.d (.vals e ys)) |none=>none) else none) else none
  |_=>none):=by
 have:=Bj8 (Bv H r (rd bs q)) l k g i n
 rwa[Br] at this
theorem Dm (g i n:Nat):Wx (Bc H) (rh H r bs q l) (.slc (Bc H) g i n)=(match Ci l 0 with
  |some (.row g' e xs)=>bif Nat.beq g' g then(if i+n≤xs.length then(match Gv (fz (Bc H) 7 (rh H r bs q l)) ((xs.drop i).take n) with|some ys=>some (.d (.vals e ys)) |none=>none) else none) else none
  |_=>none):=D8 H l r bs q 0 g i n
theorem Bza (m k g e n:Nat) (ds:List D) (hm:m≤k) (h:Ci l k=some (.row g e (ds.map V.d))) (hn:n=ds.length):Wx (Bc H+m) (rh H r bs q l) (.slc (Bc H+k) g 0 n)=some (.d (.vals e ds)):=by
 have hr:Ct (rh H r bs q l) (Bc H+k) g=some (e,ds.map V.d):=by
  unfold Ct
  rw[D5,h]
  simp
 have hmm:Gv (fz (Bc H+m) 7 (rh H r bs q l)) (((ds.map V.d).drop 0).take n)=some ds:=by
  rw[List.drop_zero,List.take_of_length_le (by rw[List.length_map];omega)]
  exact Su (Wz ds)
 have:=Sm (n:=Bc H+m) (d:=7) (r:=Bc H+k) (g:=g) (i:=0) (k:=n) (by omega) hr (by rw[List.length_map];omega) hmm
 show(if Bc H+k<Bc H+m then _ else(match fz (Bc H+m) Qd _ (.slc (Bc H+k) g 0 n) with|some x=>some (V.d x) |none=>none))=_
 rw[if_neg (by omega),show Qd=7+1 from rfl,this]
theorem Bla {p:Int} (h:Ci H r=some (rd bs p)):H=rh H r bs p []:=by
 unfold rh
 rw[Byl,Ga h]
theorem F5 (l':Hp):ap (rh H r bs q l) l'=rh H r bs q ((l:List Ev.Obj)++l'):=by
 unfold rh;rw[Bqj]
end
theorem Bfz {H l:Hp} {r:Nat} {bs:List Int} {q q':Int} {k:Nat} {args:List V} {v:V} (hr:r<Bc H) (h:ev R k args (rh H r bs q l)=some (v,Bv (rh H r bs q l) r (rd bs q'))):ev R k args (rh H r bs q l)=some (v,rh H r bs q' l):=by
 rw[h,Bf0 H l r bs q hr]
theorem Ky {H l:Hp} {r:Nat} {bs:List Int} {q:Int} (n:Int) (hr:r<Bc H) (hb:Dl bs) (h0:0≤q) (h1:q≤1000000000000):ev R 21 [.ptr r 0 0 0, .d (.int .i64 n)] (rh H r bs q l)=some (.d (.int .i64 (Db bs q n)),rh H r bs (q+1) l):=
 Bfz hr (Bnr _ r bs q n (Biq H l r bs q hr) hb h0 h1)
theorem Bm6 {H l:Hp} {r:Nat} {bs:List Int} {q:Int} (xs:List Bl) (hr:r<Bc H) (hb:Dl bs) (h0:0≤q) (h1:q≤1000000000000) (hx:0<xs.length):ev R 34 [.ptr r 0 0 0, .d (Bf xs)] (rh H r bs q l)=some (.d (.str (ofV bs q xs)),rh H r bs (q+1) l):=
 Bfz hr (Byu _ r bs q xs (Biq H l r bs q hr) hb h0 h1 hx)
abbrev Bn6 (ns:List Int):D:= .vals 1 (ns.map (D.int .i64))
def Bfo (bs:List Int) (q:Int) (ns:List Int):Int:=ns.getD (Db bs q ns.length).toNat 0
theorem X0 (bs:List Int) (q:Int) (ns:List Int) (hb:Dl bs) (h0:0≤q) (h1:q≤1000000000000) (hn:0<ns.length):Bfo bs q ns∈ns:=by
 unfold Bfo
 have:=Gp bs q ns.length hb h0 h1
 have h2:=this.2 (by omega)
 have hi: (Db bs q ns.length).toNat<ns.length:=by omega
 rw[List.getD_eq_getElem?_getD,List.getElem?_eq_getElem hi]
 exact List.getElem_mem hi
theorem B0w (H:Hp) (r:Nat) (bs:List Int) (p:Int) (ns:List Int) (h:Ci H r=some (rd bs p)) (hb:Dl bs) (hp:0≤p) (hp2:p≤1000000000000) (hx:0<ns.length) (hx2:ns.length≤1000000):ev R 11 [.ptr r 0 0 0, .d (Bn6 ns)] H=some (.d (.int .i64 (Bfo bs p ns)),Bv H r (rd bs (p+1))):=by
 refine Bo (fn:=f11) rfl rfl ?_
 have e:=Bnr H r bs p ns.length h hb hp hp2
 obtain⟨k0,k1⟩:=Gp bs p ns.length hb hp hp2
 have k1:=k1 (by omega)
 unfold Bfo
 generalize Db bs p ns.length=z at*
 obtain⟨k,rfl⟩:=Int.eq_ofNat_of_zero_le k0
 have hk:k<ns.length:=by omega
 have g: (ns.map (D.int .i64)).getD k .nilp= .int .i64 (ns.getD k 0):=by simp[List.getD_eq_getElem?_getD,hk]
 simp[Ck,-List.getD_eq_getElem?_getD,-List.map_map,f11,e,k0,k1,hk,g,Lb]
theorem Blb {H l:Hp} {r:Nat} {bs:List Int} {q:Int} (ns:List Int) (hr:r<Bc H) (hb:Dl bs) (h0:0≤q) (h1:q≤1000000000000) (hx:0<ns.length) (hx2:ns.length≤1000000):ev R 11 [.ptr r 0 0 0, .d (Bn6 ns)] (rh H r bs q l)=some (.d (.int .i64 (Bfo bs q ns)),rh H r bs (q+1) l):=
 Bfz hr (B0w _ r bs q ns (Biq H l r bs q hr) hb h0 h1 hx hx2)
theorem Bip {H l:Hp} {r:Nat} {bs:List Int} {q:Int} (hr:r<Bc H) (hb:Dl bs) (h0:0≤q) (h1:q≤1000000000):
  ∃ (ts:List Bl) (q':Int),ev R 33 [.ptr r 0 0 0] (rh H r bs q l)=some (.slc (Bc H+l.length) 0 0 ts.length,rh H r bs q' ((l:List Ev.Obj)++[.row 0 1 ((ts.map D.str).map V.d)]))∧q≤q'∧q'≤q+20∧1≤ts.length∧ts.length≤8∧∀x∈ts,x.length≤40:=by
 obtain⟨ts,q',he,a,b,c,d,f⟩:=B3o _ r bs q (Biq H l r bs q hr) hb h0 h1
 refine⟨ts,q', ?_,a,b,c,d,f⟩
 rw[he,Bf0 H l r bs q hr,Dj,D9]
 rfl
def Nxt (I:Nat→Env→Hp→Prop) (n:Nat) (e:Env) (X:Hp):Prop:=∃m,m<n∧I m e X
end Go.Proofs.YtedlandcnpjghaaGreatDoor.Code

/- Lemmas (several texts in one). -/
import Derived.Test.YtpajcoanfkeibaaGreatDoorMDoKind6
import Derived.Test.YtpajcoanfkeibaaGreatDoorMDoKind9
set_option maxRecDepth 100000
set_option linter.unusedSimpArgs false
set_option linter.unusedVariables false
set_option maxHeartbeats 2000000
open List renaming mem_cons → Cdj, map_cons → Cdd, map_nil → Cde, getD_eq_getElem?_getD → Cda, map_map → Cdb, take_of_length_le → Cdg, length_cons → Cdc, length_nil → Cdf, length_append → Cdi, mem_append → Cdq, not_mem_nil → Cdp
open Nat renaming zero_add → Cd9
namespace Go.Proofs.YtpajcoanfkeibaaGreatDoor.Code
open Go Go.Ev Go.Proofs
theorem F7 {H:Hp} {r:Nat} {o:Ev.Obj} (h:Cc H r=some o):Bw H r o=H:=by
 induction H generalizing r with
 |nil=>rfl
 |cons a H ih=>
  cases r with
  |zero=>simp only[Cc,Option.some.injEq] at h;subst h;rfl
  |succ r=>exact congrArg (List.cons a) (ih h)
theorem J9 (bs:List Int): ∀ (n:Nat) (p:Int),∀x∈F3 bs n p,x.length≤40
 |0,p=>by simp[F3]
 |n+1,p=>by
  intro x hx
  simp only[F3,Cdj] at hx
  rcases hx with rfl|hx
  ·exact Be8 bs p
  ·exact J9 bs n (p+1) x hx
theorem L9 (H:Hp) (r:Nat) (bs:List Int) (q q':Int) (xs:List Br) {o:Ev.Obj} (h:Cc H r=some o) (hb:Dl bs) (hq:0≤q) (hq2:q≤100000000000) (hq':q'=q+1) (hx:0<xs.length) (hm: ∀x∈xs,x.length≤40):
  ∃t:Br,t.length≤40∧ev R 45 [.ptr r 0 0 0, .d (Bf xs)] (Bw H r (rd bs q))=some (.d (.str t),Bw H r (rd bs q')):=by
 subst hq'
 have e:=Bw4 (Bw H r (rd bs q)) r bs q xs (Cn _ (Fu h)) hb hq (by omega) hx
 rw[Mf] at e
 exact⟨_,Bau bs q xs 40 hm,e⟩
theorem Bah (H:Hp) (r:Nat) (bs:List Int) (q q':Int) {o:Ev.Obj} (h:Cc H r=some o) (hb:Dl bs) (hq:0≤q) (hq2:q≤100000000000) (hq':q'=q+1):
  ∃t:Br,t.length≤40∧ev R 160 [.ptr r 0 0 0] (Bw H r (rd bs q))=some (.d (.str t),Bw H r (rd bs q')):=by
 subst hq'
 have e:=Bzo (Bw H r (rd bs q)) r bs q (Cn _ (Fu h)) hb hq (by omega)
 rw[Mf] at e
 exact⟨_,Be8 bs q,e⟩
theorem Baf (H:Hp) (r:Nat) (bs:List Int) (q q' n:Int) {o:Ev.Obj} (h:Cc H r=some o) (hb:Dl bs) (hq:0≤q) (hq2:q≤100000000000) (hq':q'=q+1):
  ev R 43 [.ptr r 0 0 0, .d (.int .i64 n)] (Bw H r (rd bs q))=some (.d (.int .i64 (Dg bs q n)),Bw H r (rd bs q')):=by
 subst hq'
 have e:=Br9 (Bw H r (rd bs q)) r bs q n (Cn _ (Fu h)) hb hq (by omega)
 rwa[Mf] at e
theorem Bag (H:Hp) (r:Nat) (bs:List Int) (q q':Int) {o:Ev.Obj} (h:Cc H r=some o) (hb:Dl bs) (hq:0≤q) (hq2:q≤100000000000) (hq':q'=q+1):
  ∃t:Br,t.length≤40∧ev R 22 [.ptr r 0 0 0] (Bw H r (rd bs q))=some (.d (.str t),Bw H r (rd bs q')):=by
 obtain⟨t,l,e⟩:=L9 H r bs q q' [[107],[108],[115],[122],[104],[107,50],[108]] h hb hq hq2 hq' (by simp) (by simp)
 refine⟨t,l,Bh (fn:=f22) rfl rfl ?_⟩
 have hl:=J5 (Bw H r (rd bs q'))
 rw[Bt] at hl
 have hl2:=Bt H r (rd bs q)
 simp only[Bf,Cdd,Cde] at e
 simp[Cm,-Cda,-Cdb,f22,e,hl,hl2]
theorem Bpd (H:Hp) (r:Nat) (bs:List Int) (q q':Int) {o:Ev.Obj} (h:Cc H r=some o) (hb:Dl bs) (hq:0≤q) (hq2:q≤100000000000) (hq':q'=q+1):
  ∃t:Br,t.length≤40∧ev R 161 [.ptr r 0 0 0] (Bw H r (rd bs q))=some (.d (.str t),Bw H r (rd bs q')):=by
 obtain⟨t,l,e⟩:=L9 H r bs q q' [[48],[49],[45,49],[50],[45,50],[53],[49,48,48],[45,49,48,48],[49,48,48,48,48,48,48,48,48,48],[120]] h hb hq hq2 hq' (by simp) (by simp)
 refine⟨t,l,Bh (fn:=f161) rfl rfl ?_⟩
 have hl:=J5 (Bw H r (rd bs q'))
 rw[Bt] at hl
 have hl2:=Bt H r (rd bs q)
 simp only[Bf,Cdd,Cde] at e
 simp[Cm,-Cda,-Cdb,f161,e,hl,hl2]
theorem B08 (H:Hp) (r:Nat) (bs:List Int) (q:Int) (mi:Int) (most:Nat) (hmi:mi=most) (L:List Br) {o:Ev.Obj} (h:Cc H r=some o) (hb:Dl bs) (hq:0≤q) (hq2:q≤10000000000) (hm:most≤3):
  ∃ (N:Nat) (p9:Int),N≤most∧(q≤p9∧p9≤q+5)∧ev R 162 [.ptr r 0 0 0, .d (.int .i64 mi)] (Bp (Bw H r (rd bs q)) (.row 0 1 ((L.map D.str).map V.d)))=some (.slc (Bc H+1) 0 0 N,Bp (Bp (Bw H r (rd bs p9)) (.row 0 1 ((L.map D.str).map V.d))) (Jy 0 (F3 bs N (q+1)))):=by
 subst hmi
 have hr:=Fu h
 have hg:Cc (Bp (Bw H r (rd bs q)) (.row 0 1 ((L.map D.str).map V.d))) r=some (rd bs q):=by
  rw[Da _ (by rw[Bt];exact hr),Cn _ hr]
 have e:=B2x _ r bs q most hg hb hq (by omega) (by omega)
 obtain⟨k0,k1⟩:=Jg bs q ((most:Int)+1) hb hq (by omega)
 have k1:=k1 (by omega)
 obtain⟨N,hN⟩: ∃N,(Dg bs q ((most:Int)+1)).toNat=N:=⟨_,rfl⟩
 rw[hN,Cf,Bt,Nq (by rw[Bt];exact hr),Mf] at e
 exact⟨N,q+1+N,by omega,by omega,e⟩
theorem Bfg (H X:Hp) (hl:Bc X=Bc H) (ds ts:List Br) (N:Nat) (hN:ts.length=N):
  C8 (Bp (Bp X (.row 0 1 ((ds.map D.str).map V.d))) (Jy 0 ts)) (Bc H) 0=some (1,(ds.map D.str).map V.d)∧
  R3 (Bp (Bp X (.row 0 1 ((ds.map D.str).map V.d))) (Jy 0 ts)) (.slc (Bc H+1) 0 0 N)=some (1,(ts.map D.str).map V.d,false)∧
  Bw (Bp (Bp X (.row 0 1 ((ds.map D.str).map V.d))) (Jy 0 ts)) (Bc H) (.row 1 1 ((ds.map D.str).map V.d++(ts.map D.str).map V.d))=Bp (Bp X (.row 1 1 ((ds.map D.str).map V.d++(ts.map D.str).map V.d))) (Jy 0 ts)∧
  Yz (Bc H) (Bp (Bp X (.row 1 1 ((ds.map D.str).map V.d++(ts.map D.str).map V.d))) (Jy 0 ts)) (.slc (Bc H) 1 0 (ds.length+N))=some (.d (.vals 1 (ds.map D.str++ts.map D.str)))∧
  Cx (Bp (Bp X (.row 1 1 ((ds.map D.str).map V.d++(ts.map D.str).map V.d))) (Jy 0 ts)) (Bc H)=X∧
  ((ts.map D.str).map V.d).all (Ru (Bc H) (Bc H))=true:=by
 subst hN
 rw[←hl]
 refine⟨?_, ?_, ?_, ?_, ?_, ?_⟩
 ·simp only[C8,Da _ (show Bc X<Bc (Bp X (.row 0 1 ((ds.map D.str).map V.d))) by rw[Cf];omega),Co]
  rfl
 ·have hr:C8 (Bp (Bp X (.row 0 1 ((ds.map D.str).map V.d))) (Jy 0 ts)) (Bc X+1) 0=some (1,(ts.map D.str).map V.d):=Bcw (by rw[Cf])
  simp only[R3,hr]
  rw[if_pos (by simp),List.drop_zero,Cdg (by simp)]
 ·rw[Nq (by rw[Cf];omega),Qt]
 ·have hr:C8 (Bp (Bp X (.row 1 1 ((ds.map D.str).map V.d++(ts.map D.str).map V.d))) (Jy 0 ts)) (Bc X) 1=some (1,(ds.map D.str).map V.d++(ts.map D.str).map V.d):=by
   simp only[C8,Da _ (show Bc X<Bc (Bp X (.row 1 1 ((ds.map D.str).map V.d++(ts.map D.str).map V.d))) by rw[Cf];omega),Co]
   rfl
  have h:=Bbr (n:=Bc X) (d:=7) (i:=0) (k:=ds.length+ts.length) (by omega) hr (by simp) (ys:=ds.map D.str++ts.map D.str) (by
   rw[List.drop_zero,Cdg (by simp),←List.map_append];exact Bb7 _)
  show(if Bc X<Bc X then _ else(match fz (Bc X) Pb _ (.slc (Bc X) 1 0 (ds.length+ts.length)) with|some x=>some (V.d x) |none=>none))=_
  rw[if_neg (by omega),show Pb=7+1 from rfl,h]
 ·simp[Cx,Bp,Bc]
 ·simp[Ru,J3]
theorem Nt (H X:Hp) (hl:Bc X=Bc H) (ds:List Br):
  C8 (Bp X (.row 0 1 ((ds.map D.str).map V.d))) (Bc H) 0=some (1,(ds.map D.str).map V.d)∧Cx (Bp X (.row 0 1 ((ds.map D.str).map V.d))) (Bc H)=X∧True:=by
 rw[←hl]
 exact⟨Cy _ _ _ _,Fb _ _,trivial⟩
theorem Za (H X:Hp) (hl:Bc X=Bc H) (g:Nat) (ys:List V) (o:Ev.Obj):C8 (Bp (Bp X (.row g 1 ys)) o) (Bc H) g=some (1,ys):=by
 rw[←hl]
 simp only[C8,Da _ (show Bc X<Bc (Bp X (.row g 1 ys)) by rw[Cf];omega),Co]
 simp
def Yi (H:Hp) (r:Nat) (bs:List Int) (p:Int):Prop:=
 ∃ (ts:List Br) (p':Int),ev R 64 [.ptr r 0 0 0] H=some (.slc (Bc H) 0 0 ts.length,Bp (Bw H r (rd bs p')) (Jy 0 ts))∧p≤p'∧p'≤p+20∧1≤ts.length∧ts.length≤8∧∀x∈ts,x.length≤40
theorem Cbo (H:Hp) (r:Nat) (bs:List Int) (p:Int) (h:Cc H r=some (rd bs p)) (hb:Dl bs) (hp:0≤p) (hp2:p≤1000000000) (hc:Dg bs (p+2) 12=0):Yi H r bs p:=by
 obtain⟨p1,hp1⟩: ∃q,q=p+1:=⟨_,rfl⟩
 obtain⟨p2,hp2'⟩: ∃q,q=p1+1:=⟨_,rfl⟩
 obtain⟨p3,hp3⟩: ∃q,q=p2+1:=⟨_,rfl⟩
 obtain⟨kk,lk,qk⟩:=Bag H r bs p p1 h hb (by omega) (by omega) hp1
 rw[F7 h] at qk
 obtain⟨tt,lt,qt⟩:=Bah H r bs p1 p2 h hb (by omega) (by omega) hp2'
 have qp:=Baf H r bs p2 p3 12 h hb (by omega) (by omega) hp3
 rw[show p2=p+2 by omega] at qp
 rw[hc] at qp
 rw[show p+2=p2 by omega] at qp
 obtain⟨p4,hp4⟩: ∃q,q=p3+1:=⟨_,rfl⟩
 obtain⟨t1,l1,q1⟩:=L9 H r bs p3 p4 [[71,69,84],[83,84,82,76,69,78],[73,78,67,82],[76,80,79,80],[82,80,79,80],[76,76,69,78],[83,77,69,77,66,69,82,83],[83,67,65,82,68],[90,67,65,82,68],[72,71,69,84,65,76,76],[72,76,69,78],[84,89,80,69],[84,84,76],[80,69,82,83,73,83,84]] h hb (by omega) (by omega) hp4 (by simp) (by simp[*])
 simp only[Bf,Cdd,Cde] at q1
 refine⟨[t1,kk],p4, ?_,by omega,by omega,by simp,by simp,by simp[*]⟩
 obtain⟨o1,o2,o3⟩:=Nt H (Bw H r (rd bs p4)) (Bt _ _ _) [t1,kk]
 refine Bh (fn:=f64) rfl rfl ?_
 have hl:=Bt H r (rd bs p4)
 simp only[Jy,Cdd,Cde,Cdc,Cdf,Cd9,Nat.reduceAdd] at o1 o2⊢
 simp[Cm,-Cda,-Cdb,f64,qk,qt,qp,q1,hl,o1,o2,U7]
theorem Cbp (H:Hp) (r:Nat) (bs:List Int) (p:Int) (h:Cc H r=some (rd bs p)) (hb:Dl bs) (hp:0≤p) (hp2:p≤1000000000) (hc:Dg bs (p+2) 12=1):Yi H r bs p:=by
 obtain⟨p1,hp1⟩: ∃q,q=p+1:=⟨_,rfl⟩
 obtain⟨p2,hp2'⟩: ∃q,q=p1+1:=⟨_,rfl⟩
 obtain⟨p3,hp3⟩: ∃q,q=p2+1:=⟨_,rfl⟩
 obtain⟨kk,lk,qk⟩:=Bag H r bs p p1 h hb (by omega) (by omega) hp1
 rw[F7 h] at qk
 obtain⟨tt,lt,qt⟩:=Bah H r bs p1 p2 h hb (by omega) (by omega) hp2'
 have qp:=Baf H r bs p2 p3 12 h hb (by omega) (by omega) hp3
 rw[show p2=p+2 by omega] at qp
 rw[hc] at qp
 rw[show p+2=p2 by omega] at qp
 obtain⟨p4,hp4⟩: ∃q,q=p3+1:=⟨_,rfl⟩
 obtain⟨t1,l1,q1⟩:=L9 H r bs p3 p4 [[107],[107,50]] h hb (by omega) (by omega) hp4 (by simp) (by simp[*])
 simp only[Bf,Cdd,Cde] at q1
 refine⟨[[83,69,84],t1,tt],p4, ?_,by omega,by omega,by simp,by simp,by simp[*]⟩
 obtain⟨o1,o2,o3⟩:=Nt H (Bw H r (rd bs p4)) (Bt _ _ _) [[83,69,84],t1,tt]
 refine Bh (fn:=f64) rfl rfl ?_
 have hl:=Bt H r (rd bs p4)
 simp only[Jy,Cdd,Cde,Cdc,Cdf,Cd9,Nat.reduceAdd] at o1 o2⊢
 simp[Cm,-Cda,-Cdb,f64,qk,qt,qp,q1,hl,o1,o2,U7]
theorem Cbq (H:Hp) (r:Nat) (bs:List Int) (p:Int) (h:Cc H r=some (rd bs p)) (hb:Dl bs) (hp:0≤p) (hp2:p≤1000000000) (hc:Dg bs (p+2) 12=2):Yi H r bs p:=by
 obtain⟨p1,hp1⟩: ∃q,q=p+1:=⟨_,rfl⟩
 obtain⟨p2,hp2'⟩: ∃q,q=p1+1:=⟨_,rfl⟩
 obtain⟨p3,hp3⟩: ∃q,q=p2+1:=⟨_,rfl⟩
 obtain⟨kk,lk,qk⟩:=Bag H r bs p p1 h hb (by omega) (by omega) hp1
 rw[F7 h] at qk
 obtain⟨tt,lt,qt⟩:=Bah H r bs p1 p2 h hb (by omega) (by omega) hp2'
 have qp:=Baf H r bs p2 p3 12 h hb (by omega) (by omega) hp3
 rw[show p2=p+2 by omega] at qp
 rw[hc] at qp
 rw[show p+2=p2 by omega] at qp
 obtain⟨p4,hp4⟩: ∃q,q=p3+1:=⟨_,rfl⟩
 obtain⟨t1,l1,q1⟩:=L9 H r bs p3 p4 [[65,80,80,69,78,68],[73,78,67,82,66,89]] h hb (by omega) (by omega) hp4 (by simp) (by simp[*])
 simp only[Bf,Cdd,Cde] at q1
 obtain⟨p5,hp5⟩: ∃q,q=p4+1:=⟨_,rfl⟩
 obtain⟨t2,l2,q2⟩:=L9 H r bs p4 p5 [[107],[107,50]] h hb (by omega) (by omega) hp5 (by simp) (by simp[*])
 simp only[Bf,Cdd,Cde] at q2
 obtain⟨p6,hp6⟩: ∃q,q=p5+1:=⟨_,rfl⟩
 obtain⟨t3,l3,q3⟩:=Bpd H r bs p5 p6 h hb (by omega) (by omega) hp6
 obtain⟨p7,hp7⟩: ∃q,q=p6+1:=⟨_,rfl⟩
 obtain⟨t4,l4,q4⟩:=L9 H r bs p6 p7 [tt,t3] h hb (by omega) (by omega) hp7 (by simp) (by simp[*])
 simp only[Bf,Cdd,Cde] at q4
 refine⟨[t1,t2,t4],p7, ?_,by omega,by omega,by simp,by simp,by simp[*]⟩
 obtain⟨o1,o2,o3⟩:=Nt H (Bw H r (rd bs p7)) (Bt _ _ _) [t1,t2,t4]
 refine Bh (fn:=f64) rfl rfl ?_
 have hl:=Bt H r (rd bs p7)
 simp only[Jy,Cdd,Cde,Cdc,Cdf,Cd9,Nat.reduceAdd] at o1 o2⊢
 simp[Cm,-Cda,-Cdb,f64,qk,qt,qp,q1,q2,q3,q4,hl,o1,o2,U7]
theorem Cbr (H:Hp) (r:Nat) (bs:List Int) (p:Int) (h:Cc H r=some (rd bs p)) (hb:Dl bs) (hp:0≤p) (hp2:p≤1000000000) (hc:Dg bs (p+2) 12=3):Yi H r bs p:=by
 obtain⟨p1,hp1⟩: ∃q,q=p+1:=⟨_,rfl⟩
 obtain⟨p2,hp2'⟩: ∃q,q=p1+1:=⟨_,rfl⟩
 obtain⟨p3,hp3⟩: ∃q,q=p2+1:=⟨_,rfl⟩
 obtain⟨kk,lk,qk⟩:=Bag H r bs p p1 h hb (by omega) (by omega) hp1
 rw[F7 h] at qk
 obtain⟨tt,lt,qt⟩:=Bah H r bs p1 p2 h hb (by omega) (by omega) hp2'
 have qp:=Baf H r bs p2 p3 12 h hb (by omega) (by omega) hp3
 rw[show p2=p+2 by omega] at qp
 rw[hc] at qp
 rw[show p+2=p2 by omega] at qp
 obtain⟨p4,hp4⟩: ∃q,q=p3+1:=⟨_,rfl⟩
 obtain⟨t1,l1,q1⟩:=L9 H r bs p3 p4 [[76,80,85,83,72],[82,80,85,83,72]] h hb (by omega) (by omega) hp4 (by simp) (by simp[*])
 simp only[Bf,Cdd,Cde] at q1
 obtain⟨p5,hp5⟩: ∃q,q=p4+1:=⟨_,rfl⟩
 obtain⟨t2,l2,q2⟩:=L9 H r bs p4 p5 [[108],[108],[107]] h hb (by omega) (by omega) hp5 (by simp) (by simp[*])
 simp only[Bf,Cdd,Cde] at q2
 obtain⟨N,p9,nl,pl,q9⟩:=B08 H r bs p5 3 3 rfl ([t1,t2,tt]:List Br) h hb (by omega) (by omega) (by omega)
 obtain⟨a1,a2,a3,a4,a5,a6⟩:=Bfg H (Bw H r (rd bs p9)) (Bt _ _ _) [t1,t2,tt] (F3 bs N (p5+1)) N (Li bs N (p5+1))
 have tl:=Li bs N (p5+1)
 refine⟨[t1,t2,tt]++F3 bs N (p5+1),p9, ?_,by omega,by omega,by simp,by simp[tl];omega,fun x hx=> ?_⟩
 ·refine Bh (fn:=f64) rfl rfl ?_
  have sh:=J9 bs N (p5+1)
  clear sh
  generalize F3 bs N (p5+1)=ts at a1 a2 a3 a4 a5 a6 q9 tl⊢
  simp only[Cdd,Cde,List.cons_append,List.nil_append,Cdc,Cdf,Bf,Cd9,Nat.reduceAdd] at a1 a2 a3 a4 a5 a6 q9⊢
  have rm: (N+3)*16≤Ct:=by unfold Ct;omega
  have rm2: (3+N)*16≤Ct:=by unfold Ct;omega
  have hl:=Bt H r (rd bs p5)
  have aD:=Ba2 (ts.map D.str)
  have r1: ∀ys:List V,C8 (Bp (Bp (Bw H r (rd bs p9)) (.row 1 1 ys)) (Jy 0 ts)) (Bc H) 1=some (1,ys):=fun ys=>Za H (Bw H r (rd bs p9)) (Bt _ _ _) 1 ys (Jy 0 ts)
  have hl9:=Bt H r (rd bs p9)
  show _=some (V.slc (Bc H) 0 0 _,Bp (Bw H r (rd bs p9)) (.row 0 1 _))
  simp only[Cdc,Cdf,Cdi,tl,Cd9,Nat.reduceAdd,Cdd,Cde,List.cons_append,List.nil_append]
  simp[Cm,-Cda,-Cdb,f64,qk,qt,qp,q1,q2,hl,hl9,q9,a1,a2,a3,a5,a6,rm,rm2,tl,aD,r1,U7]
  omega
 ·rcases Cdq.1 hx with hx|hx
  ·simp only[Cdj,Cdp,or_false] at hx
   rcases hx with rfl|rfl|rfl<;>assumption
  ·exact J9 bs N (p5+1) x hx
theorem Cbs (H:Hp) (r:Nat) (bs:List Int) (p:Int) (h:Cc H r=some (rd bs p)) (hb:Dl bs) (hp:0≤p) (hp2:p≤1000000000) (hc:Dg bs (p+2) 12=4):Yi H r bs p:=by
 obtain⟨p1,hp1⟩: ∃q,q=p+1:=⟨_,rfl⟩
 obtain⟨p2,hp2'⟩: ∃q,q=p1+1:=⟨_,rfl⟩
 obtain⟨p3,hp3⟩: ∃q,q=p2+1:=⟨_,rfl⟩
 obtain⟨kk,lk,qk⟩:=Bag H r bs p p1 h hb (by omega) (by omega) hp1
 rw[F7 h] at qk
 obtain⟨tt,lt,qt⟩:=Bah H r bs p1 p2 h hb (by omega) (by omega) hp2'
 have qp:=Baf H r bs p2 p3 12 h hb (by omega) (by omega) hp3
 rw[show p2=p+2 by omega] at qp
 rw[hc] at qp
 rw[show p+2=p2 by omega] at qp
 obtain⟨p4,hp4⟩: ∃q,q=p3+1:=⟨_,rfl⟩
 obtain⟨t1,l1,q1⟩:=L9 H r bs p3 p4 [[76,82,65,78,71,69],[76,84,82,73,77],[76,83,69,84],[76,82,69,77],[71,69,84,82,65,78,71,69]] h hb (by omega) (by omega) hp4 (by simp) (by simp[*])
 simp only[Bf,Cdd,Cde] at q1
 obtain⟨p5,hp5⟩: ∃q,q=p4+1:=⟨_,rfl⟩
 obtain⟨t2,l2,q2⟩:=L9 H r bs p4 p5 [[108],[108],[107]] h hb (by omega) (by omega) hp5 (by simp) (by simp[*])
 simp only[Bf,Cdd,Cde] at q2
 obtain⟨p6,hp6⟩: ∃q,q=p5+1:=⟨_,rfl⟩
 obtain⟨t3,l3,q3⟩:=Bpd H r bs p5 p6 h hb (by omega) (by omega) hp6
 obtain⟨p7,hp7⟩: ∃q,q=p6+1:=⟨_,rfl⟩
 obtain⟨t4,l4,q4⟩:=Bpd H r bs p6 p7 h hb (by omega) (by omega) hp7
 obtain⟨p8,hp8⟩: ∃q,q=p7+1:=⟨_,rfl⟩
 obtain⟨t5,l5,q5⟩:=L9 H r bs p7 p8 [t4,tt] h hb (by omega) (by omega) hp8 (by simp) (by simp[*])
 simp only[Bf,Cdd,Cde] at q5
 refine⟨[t1,t2,t3,t5],p8, ?_,by omega,by omega,by simp,by simp,by simp[*]⟩
 obtain⟨o1,o2,o3⟩:=Nt H (Bw H r (rd bs p8)) (Bt _ _ _) [t1,t2,t3,t5]
 refine Bh (fn:=f64) rfl rfl ?_
 have hl:=Bt H r (rd bs p8)
 simp only[Jy,Cdd,Cde,Cdc,Cdf,Cd9,Nat.reduceAdd] at o1 o2⊢
 simp[Cm,-Cda,-Cdb,f64,qk,qt,qp,q1,q2,q3,q4,q5,hl,o1,o2,U7]
theorem Cbt (H:Hp) (r:Nat) (bs:List Int) (p:Int) (h:Cc H r=some (rd bs p)) (hb:Dl bs) (hp:0≤p) (hp2:p≤1000000000) (hc:Dg bs (p+2) 12=5):Yi H r bs p:=by
 obtain⟨p1,hp1⟩: ∃q,q=p+1:=⟨_,rfl⟩
 obtain⟨p2,hp2'⟩: ∃q,q=p1+1:=⟨_,rfl⟩
 obtain⟨p3,hp3⟩: ∃q,q=p2+1:=⟨_,rfl⟩
 obtain⟨kk,lk,qk⟩:=Bag H r bs p p1 h hb (by omega) (by omega) hp1
 rw[F7 h] at qk
 obtain⟨tt,lt,qt⟩:=Bah H r bs p1 p2 h hb (by omega) (by omega) hp2'
 have qp:=Baf H r bs p2 p3 12 h hb (by omega) (by omega) hp3
 rw[show p2=p+2 by omega] at qp
 rw[hc] at qp
 rw[show p+2=p2 by omega] at qp
 obtain⟨p4,hp4⟩: ∃q,q=p3+1:=⟨_,rfl⟩
 obtain⟨t1,l1,q1⟩:=L9 H r bs p3 p4 [[83,65,68,68],[83,65,68,68],[83,82,69,77]] h hb (by omega) (by omega) hp4 (by simp) (by simp[*])
 simp only[Bf,Cdd,Cde] at q1
 obtain⟨p5,hp5⟩: ∃q,q=p4+1:=⟨_,rfl⟩
 obtain⟨t2,l2,q2⟩:=L9 H r bs p4 p5 [[115],[115,50]] h hb (by omega) (by omega) hp5 (by simp) (by simp[*])
 simp only[Bf,Cdd,Cde] at q2
 obtain⟨N,p9,nl,pl,q9⟩:=B08 H r bs p5 2 2 rfl ([t1,t2,tt]:List Br) h hb (by omega) (by omega) (by omega)
 obtain⟨a1,a2,a3,a4,a5,a6⟩:=Bfg H (Bw H r (rd bs p9)) (Bt _ _ _) [t1,t2,tt] (F3 bs N (p5+1)) N (Li bs N (p5+1))
 have tl:=Li bs N (p5+1)
 refine⟨[t1,t2,tt]++F3 bs N (p5+1),p9, ?_,by omega,by omega,by simp,by simp[tl];omega,fun x hx=> ?_⟩
 ·refine Bh (fn:=f64) rfl rfl ?_
  have sh:=J9 bs N (p5+1)
  clear sh
  generalize F3 bs N (p5+1)=ts at a1 a2 a3 a4 a5 a6 q9 tl⊢
  simp only[Cdd,Cde,List.cons_append,List.nil_append,Cdc,Cdf,Bf,Cd9,Nat.reduceAdd] at a1 a2 a3 a4 a5 a6 q9⊢
  have rm: (N+3)*16≤Ct:=by unfold Ct;omega
  have rm2: (3+N)*16≤Ct:=by unfold Ct;omega
  have hl:=Bt H r (rd bs p5)
  have aD:=Ba2 (ts.map D.str)
  have r1: ∀ys:List V,C8 (Bp (Bp (Bw H r (rd bs p9)) (.row 1 1 ys)) (Jy 0 ts)) (Bc H) 1=some (1,ys):=fun ys=>Za H (Bw H r (rd bs p9)) (Bt _ _ _) 1 ys (Jy 0 ts)
  have hl9:=Bt H r (rd bs p9)
  show _=some (V.slc (Bc H) 0 0 _,Bp (Bw H r (rd bs p9)) (.row 0 1 _))
  simp only[Cdc,Cdf,Cdi,tl,Cd9,Nat.reduceAdd,Cdd,Cde,List.cons_append,List.nil_append]
  simp[Cm,-Cda,-Cdb,f64,qk,qt,qp,q1,q2,hl,hl9,q9,a1,a2,a3,a5,a6,rm,rm2,tl,aD,r1,U7]
  omega
 ·rcases Cdq.1 hx with hx|hx
  ·simp only[Cdj,Cdp,or_false] at hx
   rcases hx with rfl|rfl|rfl<;>assumption
  ·exact J9 bs N (p5+1) x hx
theorem Cbu (H:Hp) (r:Nat) (bs:List Int) (p:Int) (h:Cc H r=some (rd bs p)) (hb:Dl bs) (hp:0≤p) (hp2:p≤1000000000) (hc:Dg bs (p+2) 12=6):Yi H r bs p:=by
 obtain⟨p1,hp1⟩: ∃q,q=p+1:=⟨_,rfl⟩
 obtain⟨p2,hp2'⟩: ∃q,q=p1+1:=⟨_,rfl⟩
 obtain⟨p3,hp3⟩: ∃q,q=p2+1:=⟨_,rfl⟩
 obtain⟨kk,lk,qk⟩:=Bag H r bs p p1 h hb (by omega) (by omega) hp1
 rw[F7 h] at qk
 obtain⟨tt,lt,qt⟩:=Bah H r bs p1 p2 h hb (by omega) (by omega) hp2'
 have qp:=Baf H r bs p2 p3 12 h hb (by omega) (by omega) hp3
 rw[show p2=p+2 by omega] at qp
 rw[hc] at qp
 rw[show p+2=p2 by omega] at qp
 obtain⟨p4,hp4⟩: ∃q,q=p3+1:=⟨_,rfl⟩
 obtain⟨t1,l1,q1⟩:=L9 H r bs p3 p4 [[83,73,83,77,69,77,66,69,82],[83,73,78,84,69,82],[83,85,78,73,79,78],[83,68,73,70,70]] h hb (by omega) (by omega) hp4 (by simp) (by simp[*])
 simp only[Bf,Cdd,Cde] at q1
 obtain⟨p5,hp5⟩: ∃q,q=p4+1:=⟨_,rfl⟩
 obtain⟨t2,l2,q2⟩:=L9 H r bs p4 p5 [[115],[115,50]] h hb (by omega) (by omega) hp5 (by simp) (by simp[*])
 simp only[Bf,Cdd,Cde] at q2
 obtain⟨p6,hp6⟩: ∃q,q=p5+1:=⟨_,rfl⟩
 obtain⟨t3,l3,q3⟩:=L9 H r bs p5 p6 [[115],[115,50],tt] h hb (by omega) (by omega) hp6 (by simp) (by simp[*])
 simp only[Bf,Cdd,Cde] at q3
 refine⟨[t1,t2,t3],p6, ?_,by omega,by omega,by simp,by simp,by simp[*]⟩
 obtain⟨o1,o2,o3⟩:=Nt H (Bw H r (rd bs p6)) (Bt _ _ _) [t1,t2,t3]
 refine Bh (fn:=f64) rfl rfl ?_
 have hl:=Bt H r (rd bs p6)
 simp only[Jy,Cdd,Cde,Cdc,Cdf,Cd9,Nat.reduceAdd] at o1 o2⊢
 simp[Cm,-Cda,-Cdb,f64,qk,qt,qp,q1,q2,q3,hl,o1,o2,U7]
theorem Cbv (H:Hp) (r:Nat) (bs:List Int) (p:Int) (h:Cc H r=some (rd bs p)) (hb:Dl bs) (hp:0≤p) (hp2:p≤1000000000) (hc:Dg bs (p+2) 12=7):Yi H r bs p:=by
 obtain⟨p1,hp1⟩: ∃q,q=p+1:=⟨_,rfl⟩
 obtain⟨p2,hp2'⟩: ∃q,q=p1+1:=⟨_,rfl⟩
 obtain⟨p3,hp3⟩: ∃q,q=p2+1:=⟨_,rfl⟩
 obtain⟨kk,lk,qk⟩:=Bag H r bs p p1 h hb (by omega) (by omega) hp1
 rw[F7 h] at qk
 obtain⟨tt,lt,qt⟩:=Bah H r bs p1 p2 h hb (by omega) (by omega) hp2'
 have qp:=Baf H r bs p2 p3 12 h hb (by omega) (by omega) hp3
 rw[show p2=p+2 by omega] at qp
 rw[hc] at qp
 rw[show p+2=p2 by omega] at qp
 obtain⟨p4,hp4⟩: ∃q,q=p3+1:=⟨_,rfl⟩
 obtain⟨t1,l1,q1⟩:=L9 H r bs p3 p4 [[90,65,68,68],[90,65,68,68],[90,73,78,67,82,66,89],[90,82,65,78,71,69],[90,82,65,78,71,69,66,89,83,67,79,82,69]] h hb (by omega) (by omega) hp4 (by simp) (by simp[*])
 simp only[Bf,Cdd,Cde] at q1
 obtain⟨p5,hp5⟩: ∃q,q=p4+1:=⟨_,rfl⟩
 obtain⟨t2,l2,q2⟩:=Bpd H r bs p4 p5 h hb (by omega) (by omega) hp5
 obtain⟨p6,hp6⟩: ∃q,q=p5+1:=⟨_,rfl⟩
 obtain⟨t3,l3,q3⟩:=Bpd H r bs p5 p6 h hb (by omega) (by omega) hp6
 obtain⟨p7,hp7⟩: ∃q,q=p6+1:=⟨_,rfl⟩
 obtain⟨t4,l4,q4⟩:=L9 H r bs p6 p7 [tt,t3] h hb (by omega) (by omega) hp7 (by simp) (by simp[*])
 simp only[Bf,Cdd,Cde] at q4
 refine⟨[t1,[122],t2,t4],p7, ?_,by omega,by omega,by simp,by simp,by simp[*]⟩
 obtain⟨o1,o2,o3⟩:=Nt H (Bw H r (rd bs p7)) (Bt _ _ _) [t1,[122],t2,t4]
 refine Bh (fn:=f64) rfl rfl ?_
 have hl:=Bt H r (rd bs p7)
 simp only[Jy,Cdd,Cde,Cdc,Cdf,Cd9,Nat.reduceAdd] at o1 o2⊢
 simp[Cm,-Cda,-Cdb,f64,qk,qt,qp,q1,q2,q3,q4,hl,o1,o2,U7]
theorem Cbw (H:Hp) (r:Nat) (bs:List Int) (p:Int) (h:Cc H r=some (rd bs p)) (hb:Dl bs) (hp:0≤p) (hp2:p≤1000000000) (hc:Dg bs (p+2) 12=8):Yi H r bs p:=by
 obtain⟨p1,hp1⟩: ∃q,q=p+1:=⟨_,rfl⟩
 obtain⟨p2,hp2'⟩: ∃q,q=p1+1:=⟨_,rfl⟩
 obtain⟨p3,hp3⟩: ∃q,q=p2+1:=⟨_,rfl⟩
 obtain⟨kk,lk,qk⟩:=Bag H r bs p p1 h hb (by omega) (by omega) hp1
 rw[F7 h] at qk
 obtain⟨tt,lt,qt⟩:=Bah H r bs p1 p2 h hb (by omega) (by omega) hp2'
 have qp:=Baf H r bs p2 p3 12 h hb (by omega) (by omega) hp3
 rw[show p2=p+2 by omega] at qp
 rw[hc] at qp
 rw[show p+2=p2 by omega] at qp
 obtain⟨p4,hp4⟩: ∃q,q=p3+1:=⟨_,rfl⟩
 obtain⟨t1,l1,q1⟩:=L9 H r bs p3 p4 [[90,82,69,77],[90,83,67,79,82,69],[90,82,65,78,75],[72,71,69,84],[72,68,69,76]] h hb (by omega) (by omega) hp4 (by simp) (by simp[*])
 simp only[Bf,Cdd,Cde] at q1
 obtain⟨p5,hp5⟩: ∃q,q=p4+1:=⟨_,rfl⟩
 obtain⟨t2,l2,q2⟩:=L9 H r bs p4 p5 [[122],[104]] h hb (by omega) (by omega) hp5 (by simp) (by simp[*])
 simp only[Bf,Cdd,Cde] at q2
 refine⟨[t1,t2,tt],p5, ?_,by omega,by omega,by simp,by simp,by simp[*]⟩
 obtain⟨o1,o2,o3⟩:=Nt H (Bw H r (rd bs p5)) (Bt _ _ _) [t1,t2,tt]
 refine Bh (fn:=f64) rfl rfl ?_
 have hl:=Bt H r (rd bs p5)
 simp only[Jy,Cdd,Cde,Cdc,Cdf,Cd9,Nat.reduceAdd] at o1 o2⊢
 simp[Cm,-Cda,-Cdb,f64,qk,qt,qp,q1,q2,hl,o1,o2,U7]
theorem Cbx (H:Hp) (r:Nat) (bs:List Int) (p:Int) (h:Cc H r=some (rd bs p)) (hb:Dl bs) (hp:0≤p) (hp2:p≤1000000000) (hc:Dg bs (p+2) 12=9):Yi H r bs p:=by
 obtain⟨p1,hp1⟩: ∃q,q=p+1:=⟨_,rfl⟩
 obtain⟨p2,hp2'⟩: ∃q,q=p1+1:=⟨_,rfl⟩
 obtain⟨p3,hp3⟩: ∃q,q=p2+1:=⟨_,rfl⟩
 obtain⟨kk,lk,qk⟩:=Bag H r bs p p1 h hb (by omega) (by omega) hp1
 rw[F7 h] at qk
 obtain⟨tt,lt,qt⟩:=Bah H r bs p1 p2 h hb (by omega) (by omega) hp2'
 have qp:=Baf H r bs p2 p3 12 h hb (by omega) (by omega) hp3
 rw[show p2=p+2 by omega] at qp
 rw[hc] at qp
 rw[show p+2=p2 by omega] at qp
 obtain⟨p4,hp4⟩: ∃q,q=p3+1:=⟨_,rfl⟩
 obtain⟨t1,l1,q1⟩:=L9 H r bs p3 p4 [[72,83,69,84],[72,83,69,84],[72,73,78,67,82,66,89]] h hb (by omega) (by omega) hp4 (by simp) (by simp[*])
 simp only[Bf,Cdd,Cde] at q1
 obtain⟨p5,hp5⟩: ∃q,q=p4+1:=⟨_,rfl⟩
 obtain⟨t2,l2,q2⟩:=L9 H r bs p4 p5 [[97],[98],tt] h hb (by omega) (by omega) hp5 (by simp) (by simp[*])
 simp only[Bf,Cdd,Cde] at q2
 obtain⟨p6,hp6⟩: ∃q,q=p5+1:=⟨_,rfl⟩
 obtain⟨t3,l3,q3⟩:=Bpd H r bs p5 p6 h hb (by omega) (by omega) hp6
 obtain⟨p7,hp7⟩: ∃q,q=p6+1:=⟨_,rfl⟩
 obtain⟨t4,l4,q4⟩:=L9 H r bs p6 p7 [tt,t3] h hb (by omega) (by omega) hp7 (by simp) (by simp[*])
 simp only[Bf,Cdd,Cde] at q4
 refine⟨[t1,[104],t2,t4],p7, ?_,by omega,by omega,by simp,by simp,by simp[*]⟩
 obtain⟨o1,o2,o3⟩:=Nt H (Bw H r (rd bs p7)) (Bt _ _ _) [t1,[104],t2,t4]
 refine Bh (fn:=f64) rfl rfl ?_
 have hl:=Bt H r (rd bs p7)
 simp only[Jy,Cdd,Cde,Cdc,Cdf,Cd9,Nat.reduceAdd] at o1 o2⊢
 simp[Cm,-Cda,-Cdb,f64,qk,qt,qp,q1,q2,q3,q4,hl,o1,o2,U7]
theorem B7u (H:Hp) (r:Nat) (bs:List Int) (p:Int) (h:Cc H r=some (rd bs p)) (hb:Dl bs) (hp:0≤p) (hp2:p≤1000000000) (hc:Dg bs (p+2) 12=10):Yi H r bs p:=by
 obtain⟨p1,hp1⟩: ∃q,q=p+1:=⟨_,rfl⟩
 obtain⟨p2,hp2'⟩: ∃q,q=p1+1:=⟨_,rfl⟩
 obtain⟨p3,hp3⟩: ∃q,q=p2+1:=⟨_,rfl⟩
 obtain⟨kk,lk,qk⟩:=Bag H r bs p p1 h hb (by omega) (by omega) hp1
 rw[F7 h] at qk
 obtain⟨tt,lt,qt⟩:=Bah H r bs p1 p2 h hb (by omega) (by omega) hp2'
 have qp:=Baf H r bs p2 p3 12 h hb (by omega) (by omega) hp3
 rw[show p2=p+2 by omega] at qp
 rw[hc] at qp
 rw[show p+2=p2 by omega] at qp
 obtain⟨p4,hp4⟩: ∃q,q=p3+1:=⟨_,rfl⟩
 obtain⟨t1,l1,q1⟩:=L9 H r bs p3 p4 [[69,88,80,73,82,69],[69,88,80,73,82,69,65,84],[82,69,78,65,77,69]] h hb (by omega) (by omega) hp4 (by simp) (by simp[*])
 simp only[Bf,Cdd,Cde] at q1
 obtain⟨p5,hp5⟩: ∃q,q=p4+1:=⟨_,rfl⟩
 obtain⟨t2,l2,q2⟩:=L9 H r bs p4 p5 [[53],[49],[49,48,48],[107],[108],[107,50],[45,49],[49,48,48,48,48,48,49]] h hb (by omega) (by omega) hp5 (by simp) (by simp[*])
 simp only[Bf,Cdd,Cde] at q2
 refine⟨[t1,kk,t2],p5, ?_,by omega,by omega,by simp,by simp,by simp[*]⟩
 obtain⟨o1,o2,o3⟩:=Nt H (Bw H r (rd bs p5)) (Bt _ _ _) [t1,kk,t2]
 refine Bh (fn:=f64) rfl rfl ?_
 have hl:=Bt H r (rd bs p5)
 simp only[Jy,Cdd,Cde,Cdc,Cdf,Cd9,Nat.reduceAdd] at o1 o2⊢
 simp[Cm,-Cda,-Cdb,f64,qk,qt,qp,q1,q2,hl,o1,o2,U7]
theorem B7v (H:Hp) (r:Nat) (bs:List Int) (p:Int) (h:Cc H r=some (rd bs p)) (hb:Dl bs) (hp:0≤p) (hp2:p≤1000000000) (hc:11≤Dg bs (p+2) 12):Yi H r bs p:=by
 obtain⟨p1,hp1⟩: ∃q,q=p+1:=⟨_,rfl⟩
 obtain⟨p2,hp2'⟩: ∃q,q=p1+1:=⟨_,rfl⟩
 obtain⟨p3,hp3⟩: ∃q,q=p2+1:=⟨_,rfl⟩
 obtain⟨kk,lk,qk⟩:=Bag H r bs p p1 h hb (by omega) (by omega) hp1
 rw[F7 h] at qk
 obtain⟨tt,lt,qt⟩:=Bah H r bs p1 p2 h hb (by omega) (by omega) hp2'
 have qp:=Baf H r bs p2 p3 12 h hb (by omega) (by omega) hp3
 rw[show p2=p+2 by omega] at qp
 obtain⟨_,pm⟩:=Jg bs (p+2) 12 hb (by omega) (by omega)
 have pm:=pm (by omega)
 rw[show Dg bs (p+2) 12=11 by omega] at qp
 rw[show p+2=p2 by omega] at qp
 obtain⟨p4,hp4⟩: ∃q,q=p3+1:=⟨_,rfl⟩
 obtain⟨t1,l1,q1⟩:=L9 H r bs p3 p4 [[68,69,76],[69,88,73,83,84,83],[75,69,89,83],[68,66,83,73,90,69],[70,76,85,83,72],[78,79,78,69],[68,69,76]] h hb (by omega) (by omega) hp4 (by simp) (by simp[*])
 simp only[Bf,Cdd,Cde] at q1
 obtain⟨p5,hp5⟩: ∃q,q=p4+1:=⟨_,rfl⟩
 obtain⟨t2,l2,q2⟩:=L9 H r bs p4 p5 [kk,[42],[63],[107,42],[]] h hb (by omega) (by omega) hp5 (by simp) (by simp[*])
 simp only[Bf,Cdd,Cde] at q2
 obtain⟨N,p9,nl,pl,q9⟩:=B08 H r bs p5 1 1 rfl ([t1,t2]:List Br) h hb (by omega) (by omega) (by omega)
 obtain⟨a1,a2,a3,a4,a5,a6⟩:=Bfg H (Bw H r (rd bs p9)) (Bt _ _ _) [t1,t2] (F3 bs N (p5+1)) N (Li bs N (p5+1))
 have tl:=Li bs N (p5+1)
 refine⟨[t1,t2]++F3 bs N (p5+1),p9, ?_,by omega,by omega,by simp,by simp[tl];omega,fun x hx=> ?_⟩
 ·refine Bh (fn:=f64) rfl rfl ?_
  have sh:=J9 bs N (p5+1)
  clear sh
  generalize F3 bs N (p5+1)=ts at a1 a2 a3 a4 a5 a6 q9 tl⊢
  simp only[Cdd,Cde,List.cons_append,List.nil_append,Cdc,Cdf,Bf,Cd9,Nat.reduceAdd] at a1 a2 a3 a4 a5 a6 q9⊢
  have rm: (N+2)*16≤Ct:=by unfold Ct;omega
  have rm2: (2+N)*16≤Ct:=by unfold Ct;omega
  have hl:=Bt H r (rd bs p5)
  have aD:=Ba2 (ts.map D.str)
  have r1: ∀ys:List V,C8 (Bp (Bp (Bw H r (rd bs p9)) (.row 1 1 ys)) (Jy 0 ts)) (Bc H) 1=some (1,ys):=fun ys=>Za H (Bw H r (rd bs p9)) (Bt _ _ _) 1 ys (Jy 0 ts)
  have hl9:=Bt H r (rd bs p9)
  show _=some (V.slc (Bc H) 0 0 _,Bp (Bw H r (rd bs p9)) (.row 0 1 _))
  simp only[Cdc,Cdf,Cdi,tl,Cd9,Nat.reduceAdd,Cdd,Cde,List.cons_append,List.nil_append]
  simp[Cm,-Cda,-Cdb,f64,qk,qt,qp,q1,q2,hl,hl9,q9,a1,a2,a3,a5,a6,rm,rm2,tl,aD,r1,U7]
  omega
 ·rcases Cdq.1 hx with hx|hx
  ·simp only[Cdj,Cdp,or_false] at hx
   rcases hx with rfl|rfl<;>assumption
  ·exact J9 bs N (p5+1) x hx
theorem B8h (H:Hp) (r:Nat) (bs:List Int) (p:Int) (h:Cc H r=some (rd bs p)) (hb:Dl bs) (hp:0≤p) (hp2:p≤1000000000):Yi H r bs p:=by
 obtain⟨k0,k1⟩:=Jg bs (p+2) 12 hb (by omega) (by omega)
 have k1:=k1 (by omega)
 have c:Dg bs (p+2) 12=0∨Dg bs (p+2) 12=1∨Dg bs (p+2) 12=2∨Dg bs (p+2) 12=3∨Dg bs (p+2) 12=4∨Dg bs (p+2) 12=5∨Dg bs (p+2) 12=6∨Dg bs (p+2) 12=7∨Dg bs (p+2) 12=8∨Dg bs (p+2) 12=9∨Dg bs (p+2) 12=10∨11≤Dg bs (p+2) 12:=by omega
 rcases c with c|c|c|c|c|c|c|c|c|c|c|c
 ·exact Cbo H r bs p h hb hp hp2 c
 ·exact Cbp H r bs p h hb hp hp2 c
 ·exact Cbq H r bs p h hb hp hp2 c
 ·exact Cbr H r bs p h hb hp hp2 c
 ·exact Cbs H r bs p h hb hp hp2 c
 ·exact Cbt H r bs p h hb hp hp2 c
 ·exact Cbu H r bs p h hb hp hp2 c
 ·exact Cbv H r bs p h hb hp hp2 c
 ·exact Cbw H r bs p h hb hp hp2 c
 ·exact Cbx H r bs p h hb hp hp2 c
 ·exact B7u H r bs p h hb hp hp2 c
 ·exact B7v H r bs p h hb hp hp2 c
def oh (H:Hp) (r:Nat) (o:Ev.Obj) (l:Hp):Hp:=ap (Bw H r o) l
section
variable (H l:Hp) (r:Nat) (o:Ev.Obj)
theorem Lv (x:Ev.Obj):Bp (oh H r o l) x=oh H r o ((l:List Ev.Obj)++[x]):=Bff _ _ _
theorem Pj:Bc (oh H r o l)=Bc H+l.length:=by unfold oh;rw[Yk,Bt]
theorem Nf (k:Nat):Cc (oh H r o l) (Bc H+k)=Cc l k:=by
 have:=Qa (Bw H r o) l k
 rwa[Bt] at this
theorem Lu:Cc (oh H r o l) (Bc H)=Cc l 0:=Nf H l r o 0
theorem Ng (k:Nat) (x:Ev.Obj):Bw (oh H r o l) (Bc H+k) x=oh H r o (Bw l k x):=by
 have:=Q7 (Bw H r o) l k x
 rwa[Bt] at this
theorem Lx (x:Ev.Obj):Bw (oh H r o l) (Bc H) x=oh H r o (Bw l 0 x):=Ng H l r o 0 x
theorem L6:Cx (oh H r o l) (Bc H)=Bw H r o:=by
 have:=Ll (Bw H r o) l
 rwa[Bt] at this
theorem Kq (k:Nat):Cx (oh H r o l) (Bc H+k)=oh H r o (l.take k):=by
 have:=Wz (Bw H r o) l k
 rwa[Bt] at this
theorem Bel (hr:r<Bc H):Cc (oh H r o l) r=some o:=by
 unfold oh
 rw[Rn,ap,List.getElem?_append_left (by simpa[Bt,Bc] using(show r<Bc (Bw H r o) by rw[Bt];exact hr)),←Rn]
 exact Cn _ hr
theorem Nc (k g i n:Nat):Yz (Bc H) (oh H r o l) (.slc (Bc H+k) g i n)=(match Cc l k with
  |some (.row g' e xs)=>bif Nat.beq g' g then(if i+n≤xs.length then(match Gp (fz (Bc H) 7 (oh H r o l)) ((xs.drop i).take n) with|some ys=>some (.d (.vals e ys)) |none=>none) else none) else none
  |_=>none):=by
 have:=Bfu (Bw H r o) l k g i n
 rwa[Bt] at this
theorem Lt (g i n:Nat):Yz (Bc H) (oh H r o l) (.slc (Bc H) g i n)=(match Cc l 0 with
  |some (.row g' e xs)=>bif Nat.beq g' g then(if i+n≤xs.length then(match Gp (fz (Bc H) 7 (oh H r o l)) ((xs.drop i).take n) with|some ys=>some (.d (.vals e ys)) |none=>none) else none) else none
  |_=>none):=Nc H l r o 0 g i n
theorem B09 (h:Cc H r=some o):H=oh H r o []:=by
 unfold oh
 rw[Brn,F7 h]
theorem Tc (l':Hp):ap (oh H r o l) l'=oh H r o ((l:List Ev.Obj)++l'):=by
 unfold oh;rw[Bmz]
end
end Go.Proofs.YtpajcoanfkeibaaGreatDoor.Code

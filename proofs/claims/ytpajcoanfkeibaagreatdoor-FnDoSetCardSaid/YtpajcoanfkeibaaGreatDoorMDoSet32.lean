/- Lemmas (several texts in one). -/
import Derived.Test.YtpajcoanfkeibaaGreatDoorMDoSet6
import Derived.Test.YtpajcoanfkeibaaGreatDoorMDoSet21
import Derived.Test.YtpajcoanfkeibaaGreatDoorMDoSet24
import Derived.Test.YtpajcoanfkeibaaGreatDoorMDoSet25
import Derived.Test.YtpajcoanfkeibaaGreatDoorMDoSet26
import Derived.Test.YtpajcoanfkeibaaGreatDoorMDoSet31
set_option maxRecDepth 100000
set_option maxHeartbeats 4000000
set_option linter.unusedSimpArgs false
set_option linter.unusedVariables false
namespace Go.Proofs.YtpajcoanfkeibaaGreatDoor.Code
open Go Go.Ev Go.Proofs
def Bmm (c:V) (b:Ba):Prop:=c= .d (Db b)∨(c= .agg [.d (.int .i64 b.now), .nils 7]∧b.ents=[])
theorem Bxc {b:Ba} (hb:BaG b) (ks:List Bq):BaG (Bci b ks).1:=by
 unfold Bci
 have key: ∀ (n i:Nat) (s:Ba×Nat),BaG s.1→BaG ((List.range' i n).foldl (fun s i=>Xg ks i s) s).1:=by
  intro n
  induction n with
  |zero=>intro i s h;exact h
  |succ n ih=>intro i s h;rw[List.range'_succ,List.foldl_cons];exact ih _ _ (Boi ks i s h)
 exact key _ _ _ hb
theorem Bpo (b:Ba) (ks:List Bq): (Blm b ks).1=b:=by
 unfold Blm
 have key: ∀ (n i:Nat) (s:Ba×Nat),((List.range' i n).foldl (fun s i=>Bfi ks i s) s).1=s.1:=by
  intro n
  induction n with
  |zero=>intro i s;rfl
  |succ n ih=>intro i s;rw[List.range'_succ,List.foldl_cons,ih];rfl
 exact key _ _ _
theorem J7 {b:Ba} {c:Prop} [Decidable c] {x y:Ba×Re} (hx:BaG x.1) (hy:BaG y.1):BaG (if c then x else y).1:=by split<;>assumption
theorem Bil {b:Ba} (hb:BaG b) (k:Bq) (n:Int):BaG (Y5 b k n).1:=by
 unfold Y5
 exact J7 (b:=b) hb (J7 (b:=b) (Ti hb k) (Je hb _ _))
theorem B01 {b:Ba} (hb:BaG b) (w:Bq) (r:List Bq):BaG (Df b w r).1:=by
 unfold Df
 repeat' (with_reducible refine J7 (b:=b) ?_ ?_)
 all_goals first
  |exact hb
  | (unfold Bcg;exact J7 (b:=b) (Je hb _ _) hb)
  | (unfold Bpq;exact Je hb _ _)
  | (unfold Uk;exact J7 (b:=b) hb (Je hb _ _))
  | (unfold Ph;exact J7 (b:=b) hb hb)
  | (unfold Tm;exact J7 (b:=b) (Je hb _ _) hb)
  | (unfold Bcl;exact J7 (b:=b) (Je hb _ _) hb)
  | (unfold Un;exact J7 (b:=b) hb hb)
  | (unfold Y4;exact J7 (b:=b) (Je hb _ _) hb)
  | (unfold Beo;exact J7 (b:=b) (J7 (b:=b) (Je hb _ _) hb) hb)
  | (unfold Ben;exact J7 (b:=b) (Je hb _ _) hb)
  | (unfold Bep;exact J7 (b:=b) (Je hb _ _) hb)
  | (unfold Beq;exact Je hb _ _)
  | (unfold Ber;exact J7 (b:=b) (J7 (b:=b) (Je hb _ _) hb) hb)
  | (unfold Rc;exact J7 (b:=b) (J7 (b:=b) (Je hb _ _) hb) hb)
  | (unfold Uq;exact J7 (b:=b) hb hb)
  | (unfold Ke;exact J7 (b:=b) hb hb)
  | (unfold Bes;exact Je hb _ _)
  | (unfold Bem;exact J7 (b:=b) (Je hb _ _) hb)
  | (unfold Bel;exact Je hb _ _)
  | (unfold Q9;exact J7 (b:=b) (J7 (b:=b) (Je hb _ _) hb) hb)
  | (unfold Ra;exact Je hb _ _)
  | (unfold Um;exact J7 (b:=b) (Bil hb _ _) hb)
  | (unfold Pg;exact J7 (b:=b) (Bil hb _ _) hb)
  | (unfold Uo;exact J7 (b:=b) hb (Je (Ti hb _) _ _))
  | (unfold Bpm;exact Bxc hb _)
  | (unfold Ul;dsimp only;rw[Bpo];exact hb)
  | (unfold Y2;exact⟨by simp,by simp,hb.now⟩)
theorem B6q {b:Ba} (hb:BaG b) (args:List Bq):BaG (rDo b args).1:=by
 unfold rDo
 exact J7 (b:=b) (B01 hb _ _) hb
def Bmk (H:Hp) (r:Nat) (bs:List Int) (A:Ev.Obj) (q0:Int) (k:Nat) (e:Env) (X:Hp):Prop:=
 ∃ (b:Ba) (c:V) (q:Int),BaG b∧Bmm c b∧X=rh H r bs q [A, .row 0 2 [c]]∧e.get 0= .ptr r 0 0 0∧e.get 2= .ptr (Be H) 0 0 0∧e.get 3= .ptr (Be H+1) 0 0 0∧e.get 4= .d (.int .i64 k)∧q0≤q∧q≤q0+30*(14 - k)∧k≤14
def Bqz (H:Hp) (r:Nat) (bs:List Int) (A:Ev.Obj) (q0:Int) (o:Out) (e:Env) (X:Hp):Prop:=
 o= .exit 0∧∃ (b:Ba) (c:V) (q:Int),BaG b∧Bmm c b∧X=rh H r bs q [A, .row 0 2 [c]]∧e.get 0= .ptr r 0 0 0∧e.get 2= .ptr (Be H) 0 0 0∧e.get 3= .ptr (Be H+1) 0 0 0∧q0≤q∧q≤q0+500
theorem Bo4 {ts:List Bq} (h1:1≤ts.length) (h8:ts.length≤8) (hs: ∀x∈ts,x.length≤40):Pv ts=true:=(Wm ts).2 ⟨hs,h1,h8⟩
theorem B72 (H:Hp) (r:Nat) (bs:List Int) (A:Ev.Obj) (q0:Int) (hr:r<Be H) (hb:Dg bs) (h0:0≤q0) (h1:q0≤100000000) (k:Nat) (e:Env) (X:Hp) (hI:Bmk H r bs A q0 k e X):
  Gives (Bqz H r bs A q0) (Bg (Bp (ev R) R.glob (Be H) Bg Pq) [0,2,3,4] ⟨e,X⟩):=by
 refine Bby (F:=Bp (ev R) R.glob (Be H) Bg Pq) (lv:=[0,2,3,4]) (Bmk H r bs A q0) (Bqz H r bs A q0) ?_ k e X hI
 show ∀n e X,Bmk H r bs A q0 n e X→Gives (Ye (Nxt (Bmk H r bs A q0) n) (Bqz H r bs A q0)) _
 rintro n e X ⟨b,c,q,hg,hc,rfl,g0,g2,g3,g4,hq0,hq1,hk⟩
 cases n with
 |zero=>
  simp(maxSteps:=1000000) [Ca,Dh,D8,D6,Dm,D9,Dn,Cv,Cs,D7,Dl,Gi,-List.getD_eq_getElem?_getD,-List.map_map,Pq,g0,g2,g3,g4]
  exact⟨rfl,b,c,q,hg,hc,rfl,rfl,rfl,rfl,hq0,by omega⟩
 |succ n=>
  obtain⟨ts,q1,ho,a1,a2,t1,t8,ts40⟩:=Bir (l:=[A, .row 0 2 [c]]) hr hb (show 0≤q by omega) (show q≤1000000000 by omega)
  simp only[List.length_cons,List.length_nil,List.cons_append,List.nil_append] at ho
  have fz:=fun c'=>B03 H [A, .row 0 2 [c'], .row 0 1 ((ts.map D.str).map V.d)] r bs q1 2 2 0 1 ts.length (ts.map D.str) (by omega) rfl (by simp)
  have hd:=B98 b ts hg (Bo4 t1 t8 ts40)
  have hdg:=B6q hg ts
  have g:=Dt ts 0 (by omega)
  have c0: (0:Int)< (ts.length:Int):=by omega
  have c1:0<ts.length:=by omega
  have cn: (0:Int)< (n:Int)+1:=by omega
  have w:IntKind.i64.wrap ((n:Int)+1 - 1)=(n:Int):=by rw[IntWalk.i64_in _ (by omega)];omega
  have w':IntKind.i64.wrap (n:Int)=(n:Int):=IntWalk.i64_in _ (by omega)
  generalize rDo b ts=P at*
  obtain⟨b1,re⟩:=P
  dsimp only[Bo] at hd hdg
  have pk4:=fun l=>La (H:=H) (l:=l) (r:=r) (bs:=bs) (q:=q1) 4 hr hb (by omega) (by omega)
  have pk6:=fun l=>La (H:=H) (l:=l) (r:=r) (bs:=bs) (q:=q1) 6 hr hb (by omega) (by omega)
  have pk61:=fun l=>La (H:=H) (l:=l) (r:=r) (bs:=bs) (q:=q1+1) 6 hr hb (by omega) (by omega)
  have pk46:=fun l=>La (H:=H) (l:=l) (r:=r) (bs:=bs) (q:=q1+1) 4 hr hb (by omega) (by omega)
  have pk461:=fun l=>La (H:=H) (l:=l) (r:=r) (bs:=bs) (q:=q1+1+1) 4 hr hb (by omega) (by omega)
  obtain⟨k40,_⟩:=Jj bs (q1+1) 4 hb (by omega) (by omega)
  obtain⟨k41,k42⟩:=Jj bs (q1+1) 4 hb (by omega) (by omega)
  obtain⟨k43,k44⟩:=Jj bs (q1+1+1) 4 hb (by omega) (by omega)
  have k42:=k42 (by omega)
  have k44:=k44 (by omega)
  have tk: ∀ (B:Ba) (hB:BaG B) (z:Int),0≤z→z<4→Bc (ev R) 66 [.d (Db B), .d (.int .i64 z)]=some (.d (Db (Yb B z))):=fun B hB z z0 z1=>B99 B z hB.sm hB.fit (by have:=hB.now;omega) (by omega)
  have tkb1:=tk b hg _ k41 k42
  have tkb2:=tk b hg _ k43 k44
  have tkc1:=tk b1 hdg _ k41 k42
  have tkc2:=tk b1 hdg _ k43 k44
  have vb1:=Baw hg (Cy bs (q1+1) 4)
  have vb2:=Baw hg (Cy bs (q1+1+1) 4)
  have vc1:=Baw hdg (Cy bs (q1+1) 4)
  have vc2:=Baw hdg (Cy bs (q1+1+1) 4)
  clear tk k40
  generalize Yb b (Cy bs (q1+1) 4)=B1 at*
  generalize Yb b (Cy bs (q1+1+1) 4)=B2 at*
  generalize Yb b1 (Cy bs (q1+1) 4)=C1 at*
  generalize Yb b1 (Cy bs (q1+1+1) 4)=C2 at*
  by_cases f:ts.getD 0 []=[70,76,85,83,72]
  ·by_cases f4:Cy bs q1 4=0
   ·by_cases f6:Cy bs (q1+1) 6=0
    ·rcases hc with rfl| ⟨rfl,hn⟩
     ·simp(maxSteps:=1000000) [Ca,Dh,D8,D6,Dm,D9,Dn,Cv,Cs,D7,Dl,Gi,-List.getD_eq_getElem?_getD,-List.map_map,Pq,g0,g2,g3,g4,ho,fz,hd,g,c0,c1,cn,w,w',eq_true f,pk4,pk61,pk461,f4,f6,tkc2]
      exact⟨n,by omega,C2,_,q1+1+1+1,vc2, .inl rfl,rfl,rfl,rfl,rfl,rfl,by omega,by omega,by omega⟩
     ·obtain⟨now,ents⟩:=b
      dsimp only at hn
      subst hn
      simp(maxSteps:=1000000) [Ca,Dh,D8,D6,Dm,D9,Dn,Cv,Cs,D7,Dl,Gi,-List.getD_eq_getElem?_getD,-List.map_map,Pq,g0,g2,g3,g4,ho,fz,hd,g,c0,c1,cn,w,w',eq_true f,pk4,pk61,pk461,f4,f6,tkc2,F6]
      exact⟨n,by omega,C2,_,q1+1+1+1,vc2, .inl rfl,rfl,rfl,rfl,rfl,rfl,by omega,by omega,by omega⟩
    ·rcases hc with rfl| ⟨rfl,hn⟩
     ·simp(maxSteps:=1000000) [Ca,Dh,D8,D6,Dm,D9,Dn,Cv,Cs,D7,Dl,Gi,-List.getD_eq_getElem?_getD,-List.map_map,Pq,g0,g2,g3,g4,ho,fz,hd,g,c0,c1,cn,w,w',eq_true f,pk4,pk61,f4,f6]
      exact⟨n,by omega,b1,_,q1+1+1,hdg, .inl rfl,rfl,rfl,rfl,rfl,rfl,by omega,by omega,by omega⟩
     ·obtain⟨now,ents⟩:=b
      dsimp only at hn
      subst hn
      simp(maxSteps:=1000000) [Ca,Dh,D8,D6,Dm,D9,Dn,Cv,Cs,D7,Dl,Gi,-List.getD_eq_getElem?_getD,-List.map_map,Pq,g0,g2,g3,g4,ho,fz,hd,g,c0,c1,cn,w,w',eq_true f,pk4,pk61,f4,f6,F6]
      exact⟨n,by omega,b1,_,q1+1+1,hdg, .inl rfl,rfl,rfl,rfl,rfl,rfl,by omega,by omega,by omega⟩
   ·by_cases f6:Cy bs (q1+1) 6=0
    ·rcases hc with rfl| ⟨rfl,hn⟩
     ·simp(maxSteps:=1000000) [Ca,Dh,D8,D6,Dm,D9,Dn,Cv,Cs,D7,Dl,Gi,-List.getD_eq_getElem?_getD,-List.map_map,Pq,g0,g2,g3,g4,ho,fz,g,c0,c1,cn,w,w',eq_true f,pk4,pk61,pk461,f4,f6,tkb2]
      exact⟨n,by omega,B2,_,q1+1+1+1,vb2, .inl rfl,rfl,rfl,rfl,rfl,rfl,by omega,by omega,by omega⟩
     ·obtain⟨now,ents⟩:=b
      dsimp only at hn
      subst hn
      simp(maxSteps:=1000000) [Ca,Dh,D8,D6,Dm,D9,Dn,Cv,Cs,D7,Dl,Gi,-List.getD_eq_getElem?_getD,-List.map_map,Pq,g0,g2,g3,g4,ho,fz,g,c0,c1,cn,w,w',eq_true f,pk4,pk61,pk461,f4,f6,tkb2,F6]
      exact⟨n,by omega,B2,_,q1+1+1+1,vb2, .inl rfl,rfl,rfl,rfl,rfl,rfl,by omega,by omega,by omega⟩
    ·simp(maxSteps:=1000000) [Ca,Dh,D8,D6,Dm,D9,Dn,Cv,Cs,D7,Dl,Gi,-List.getD_eq_getElem?_getD,-List.map_map,Pq,g0,g2,g3,g4,ho,fz,g,c0,c1,cn,w,w',eq_true f,pk4,pk61,f4,f6]
     exact⟨n,by omega,b,c,q1+1+1,hg,hc,rfl,rfl,rfl,rfl,rfl,by omega,by omega,by omega⟩
  ·by_cases f6:Cy bs q1 6=0
   ·rcases hc with rfl| ⟨rfl,hn⟩
    ·simp(maxSteps:=1000000) [Ca,Dh,D8,D6,Dm,D9,Dn,Cv,Cs,D7,Dl,Gi,-List.getD_eq_getElem?_getD,-List.map_map,Pq,g0,g2,g3,g4,ho,fz,hd,g,c0,c1,cn,w,w',eq_false f,pk6,pk46,f6,tkc1]
     exact⟨n,by omega,C1,_,q1+1+1,vc1, .inl rfl,rfl,rfl,rfl,rfl,rfl,by omega,by omega,by omega⟩
    ·obtain⟨now,ents⟩:=b
     dsimp only at hn
     subst hn
     simp(maxSteps:=1000000) [Ca,Dh,D8,D6,Dm,D9,Dn,Cv,Cs,D7,Dl,Gi,-List.getD_eq_getElem?_getD,-List.map_map,Pq,g0,g2,g3,g4,ho,fz,hd,g,c0,c1,cn,w,w',eq_false f,pk6,pk46,f6,tkc1,F6]
     exact⟨n,by omega,C1,_,q1+1+1,vc1, .inl rfl,rfl,rfl,rfl,rfl,rfl,by omega,by omega,by omega⟩
   ·rcases hc with rfl| ⟨rfl,hn⟩
    ·simp(maxSteps:=1000000) [Ca,Dh,D8,D6,Dm,D9,Dn,Cv,Cs,D7,Dl,Gi,-List.getD_eq_getElem?_getD,-List.map_map,Pq,g0,g2,g3,g4,ho,fz,hd,g,c0,c1,cn,w,w',eq_false f,pk6,f6]
     exact⟨n,by omega,b1,_,q1+1,hdg, .inl rfl,rfl,rfl,rfl,rfl,rfl,by omega,by omega,by omega⟩
    ·obtain⟨now,ents⟩:=b
     dsimp only at hn
     subst hn
     simp(maxSteps:=1000000) [Ca,Dh,D8,D6,Dm,D9,Dn,Cv,Cs,D7,Dl,Gi,-List.getD_eq_getElem?_getD,-List.map_map,Pq,g0,g2,g3,g4,ho,fz,hd,g,c0,c1,cn,w,w',eq_false f,pk6,f6,F6]
     exact⟨n,by omega,b1,_,q1+1,hdg, .inl rfl,rfl,rfl,rfl,rfl,rfl,by omega,by omega,by omega⟩
def xk (m:Nat):Bq:=120::Q3 m
theorem Bmi (m:Nat) (h1:10≤m) (h2:m<100):xk m=[120,UInt8.ofNat (48+m / 10),UInt8.ofNat (48+m % 10)]:=by
 unfold xk Q3
 rw[if_neg (by omega),Int.toNat_natCast,Sr,dif_neg (by omega),Sr,dif_pos (by omega)]
 rfl
theorem B1x {m n:Nat} (h1:10≤m) (h2:m<100) (h3:10≤n) (h4:n<100) (h:xk m=xk n):m=n:=by
 rw[Bmi m h1 h2,Bmi n h3 h4] at h
 simp only[List.cons.injEq,true_and,and_true] at h
 obtain⟨a,b⟩:=h
 have a:=congrArg UInt8.toNat a
 have b:=congrArg UInt8.toNat b
 simp only[UInt8.toNat_ofNat'] at a b
 omega
def Tv (n:Nat) (e:En):Bool:=(List.range 40).all fun m=> !(decide (n≤m) &&decide (e.key=xk m))
theorem X8 (n:Nat) (e:En):Tv n e=true↔∀m,n≤m→m<40→e.key≠xk m:=by
 unfold Tv
 rw[List.all_eq_true]
 constructor
 ·intro h m h1 h2 h3
  have:=h m (List.mem_range.2 h2)
  simp[h1,h3] at this
 ·intro h m hm
  have hm:=List.mem_range.1 hm
  by_cases h1:n≤m
  ·simp[h1,h m h1 hm]
  ·simp[h1]
theorem Bpw {n:Nat} {e:En} (h:Tv n e=true):Tv (n+1) e=true:=(X8 _ _).2 fun m h1 h2=> (X8 _ _).1 h m (by omega) h2
theorem Bj7 (p:En→Bool) (es:List En) (k:Nat) (hk:k<es.length) (hp:p (es.getD k default)=false): (Gx es k).countP p=es.countP p:=by
 have h:es=es.take k++es.getD k default::es.drop (k+1):=by rw[←Bg2 es k default hk,List.take_append_drop]
 conv=>rhs;rw[h]
 unfold Gx
 rw[List.countP_append,List.countP_append,List.countP_cons_of_neg (by rw[hp];simp)]
theorem Bvm (n:Nat) (h1:10≤n) (h2:n<40):Gq ⟨xk n,0,1,[],[],[],[]⟩=true:=by
 rw[Bmi n h1 (by omega)]
 rfl
theorem Bsx {b:Ba} (n:Nat) (h1:10≤n) (h2:n<40) (hl:b.ents.length<12):b.ents.countP (Tv n)+1≤(Nc b ⟨xk n,0,1,[],[],[],[]⟩).1.ents.countP (Tv (n+1)):=by
 have hd: (Co b (xk n)).ents.length<12:=by have:=Q8 b (xk n);omega
 have hp:Nc b ⟨xk n,0,1,[],[],[],[]⟩=(⟨b.now,Fa (Co b (xk n)).ents (Ga (Co b (xk n)).ents (xk n)) ⟨xk n,0,1,[],[],[],[]⟩⟩,true):=by
  unfold Nc
  rw[if_neg (by simp[Pn]),if_pos (by unfold Mv;rw[Bvm n h1 h2];simp[hd])]
 rw[hp]
 have hs:Tv (n+1) ⟨xk n,0,1,[],[],[],[]⟩=true:=(X8 _ _).2 fun m a c h=>by have:=B1x h1 (by omega) (by omega) (by omega) h;omega
 dsimp only
 unfold Fa
 rw[List.countP_append,List.countP_cons_of_pos hs]
 have h3: ((Co b (xk n)).ents.take (Ga (Co b (xk n)).ents (xk n))).countP (Tv (n+1))+((Co b (xk n)).ents.drop (Ga (Co b (xk n)).ents (xk n))).countP (Tv (n+1))=(Co b (xk n)).ents.countP (Tv (n+1)):=by
  rw[←List.countP_append,List.take_append_drop]
 have h4: (Co b (xk n)).ents.countP (Tv n)≤(Co b (xk n)).ents.countP (Tv (n+1)):=List.countP_mono_left fun e _ h=>Bpw h
 have h5: (Co b (xk n)).ents.countP (Tv n)=b.ents.countP (Tv n):=by
  unfold Co
  split
  ·rename_i hh
   refine Bj7 _ _ _ (Kl hh) ?_
   unfold Fh at hh
   simp only[Bool.and_eq_true,decide_eq_true_eq] at hh
   cases hse:Tv n (b.ents.getD (Ga b.ents (xk n)) default) with
   |false=>rfl
   |true=>exact absurd hh.2 ((X8 _ _).1 hse n (Nat.le_refl _) h2)
  ·rfl
 omega
def XI (H:Hp) (r:Nat) (bs:List Int) (A:Ev.Obj) (q:Int) (j:Nat) (e:Env) (X:Hp):Prop:=
 ∃ (b:Ba) (c:V) (n:Nat),BaG b∧Bmm c b∧X=rh H r bs q [A, .row 0 2 [c]]∧e.get 2= .ptr (Be H) 0 0 0∧e.get 3= .ptr (Be H+1) 0 0 0∧e.get 6= .d (.int .i64 n)∧n+j=22∧10≤n∧n - 10≤b.ents.countP (Tv n)
def XE (H:Hp) (r:Nat) (bs:List Int) (A:Ev.Obj) (q:Int) (o:Out) (e:Env) (X:Hp):Prop:=
 o= .exit 2∧∃ (b:Ba) (c:V),BaG b∧Bmm c b∧X=rh H r bs q [A, .row 0 2 [c]]∧e.get 2= .ptr (Be H) 0 0 0∧e.get 3= .ptr (Be H+1) 0 0 0
theorem B3a (H:Hp) (r:Nat) (bs:List Int) (A:Ev.Obj) (q:Int) (j:Nat) (e:Env) (X:Hp) (hI:XI H r bs A q j e X):
  Gives (XE H r bs A q) (Bg (Bp (ev R) R.glob (Be H) Bg Bdv) [2,3,6] ⟨e,X⟩):=by
 refine Bby (F:=Bp (ev R) R.glob (Be H) Bg Bdv) (lv:=[2,3,6]) (XI H r bs A q) (XE H r bs A q) ?_ j e X hI
 show ∀n e X,XI H r bs A q n e X→Gives (Ye (Nxt (XI H r bs A q) n) (XE H r bs A q)) _
 rintro j e X ⟨b,c,n,hg,hc,rfl,g2,g3,g6,hn,h10,hcnt⟩
 have hle:=List.countP_le_length (p:=Tv n) (l:=b.ents)
 by_cases hl:b.ents.length<12
 ·have hj:0<j:=by omega
  have hl': (b.ents.length:Int)<12:=by omega
  have p1:=Bxa (n:Int) (by omega)
  have he:EnQ ⟨xk n,0,1,[],[],[],[]⟩:=Yq (Bvm n h10 (by omega))
  have p2:=B6m b ⟨xk n,0,1,[],[],[],[]⟩ hg.sm he.sm he.fit
  have hpg:=Bno hg ⟨xk n,0,1,[],[],[],[]⟩
  have hpm:=Bsx n h10 (by omega) hl
  have dl:=he.key
  dsimp only at dl
  have sr:1+(Q3 n).length≤Kz:=by unfold xk at dl;rw[List.length_cons] at dl;unfold Kz;omega
  have w:IntKind.i64.wrap ((n:Int)+1)=(n:Int)+1:=IntWalk.i64_in _ (by omega)
  unfold xk at p2 hpg hpm
  generalize Nc b ⟨120::Q3 n,0,1,[],[],[],[]⟩=P at*
  obtain⟨b1,ok⟩:=P
  dsimp only at*
  rcases hc with rfl| ⟨rfl,hz⟩
  ·simp(maxSteps:=1000000) [Ca,Dh,D8,D6,Dm,D9,Dn,Cv,Cs,D7,Dl,Gi,-List.getD_eq_getElem?_getD,-List.map_map,Bdv,g2,g3,g6,hl',hl,p1,p2,sr,w]
   exact⟨j - 1,by omega,b1,_,n+1,hpg, .inl rfl,rfl,rfl,rfl,rfl,by omega,by omega,by omega⟩
  ·obtain⟨now,ents⟩:=b
   dsimp only at hz
   subst hz
   simp(maxSteps:=1000000) [Ca,Dh,D8,D6,Dm,D9,Dn,Cv,Cs,D7,Dl,Gi,-List.getD_eq_getElem?_getD,-List.map_map,Bdv,g2,g3,g6,p1,p2,sr,w,F6]
   exact⟨j - 1,by omega,b1,_,n+1,hpg, .inl rfl,rfl,rfl,rfl,rfl,by omega,by omega,by omega⟩
 ·have hl': ¬ (b.ents.length:Int)<12:=by omega
  rcases hc with rfl| ⟨rfl,hz⟩
  ·simp(maxSteps:=1000000) [Ca,Dh,D8,D6,Dm,D9,Dn,Cv,Cs,D7,Dl,Gi,-List.getD_eq_getElem?_getD,-List.map_map,Bdv,g2,g3,g6,hl',hl]
   exact⟨rfl,b,_,hg, .inl rfl,rfl,rfl,rfl⟩
  ·rw[hz] at hl
   simp at hl
theorem B7r (H:Hp) (r:Nat) (bs:List Int) (p:Int) (h:Ce H r=some (rd bs p)) (hb:Dg bs) (hp:0≤p) (hp2:p≤10000000):
  ∃ (b:Ba) (q:Int),ev R 42 [.ptr r 0 0 0] H=some (.d (Db b),Bw H r (rd bs q))∧BaG b∧p≤q∧q≤p+600:=by
 have hr:=Ff h
 have hH:=Blr H r bs h
 have o1:=fun l=>Bls (H:=H) (l:=l) (r:=r) (bs:=bs) (q:=p) [0,0,10,1000000] hr hb hp (by omega) (by simp) (by simp)
 have om:=Bb8 bs p [0,0,10,1000000] hb hp (by omega) (by simp)
 generalize Bhv bs p [0,0,10,1000000]=now at*
 simp only[Bsd,List.map_cons,List.map_nil] at o1
 have hnow:0≤now∧now≤1000000:=by
  simp only[List.mem_cons,List.not_mem_nil,or_false] at om
  omega
 have p14:=fun l=>La (H:=H) (l:=l) (r:=r) (bs:=bs) (q:=p+1) 14 hr hb (by omega) (by omega)
 obtain⟨k0,k1⟩:=Jj bs (p+1) 14 hb (by omega) (by omega)
 have k1:=k1 (by omega)
 generalize Cy bs (p+1) 14=k at*
 obtain⟨k,rfl⟩:=Int.eq_ofNat_of_zero_le k0
 obtain⟨o,e',X',he,rfl,b,c,q,hg,hc,rfl,g0,g2,g3,q1,q2⟩:=(B72 H r bs (.row 0 2 [.agg [.d (.int .i64 0), .nils 7]]) (p+1+1) hr hb (by omega) (by omega) k
  [(0, .ptr r 0 0 0),(2, .ptr (Be H) 0 0 0),(3, .ptr (Be H+1) 0 0 0),(4, .d (.int .i64 k))] (rh H r bs (p+1+1) [.row 0 2 [.agg [.d (.int .i64 0), .nils 7]], .row 0 2 [.agg [.d (.int .i64 now), .nils 7]]])
  ⟨⟨now,[]⟩,_,p+1+1,⟨by simp,by simp,by dsimp only;omega⟩, .inr ⟨rfl,rfl⟩,rfl,rfl,rfl,rfl,rfl,by omega,by omega,by omega⟩).out
 have p30:=fun l=>La (H:=H) (l:=l) (r:=r) (bs:=bs) (q:=q) 30 hr hb (by omega) (by omega)
 by_cases f:Cy bs q 30=0
 ·obtain⟨o2,e2,X2,he2,rfl,b2,c2,hg2,hc2,rfl,m2,m3⟩:=(B3a H r bs (.row 0 2 [.agg [.d (.int .i64 0), .nils 7]]) (q+1) 12
   [(2, .ptr (Be H) 0 0 0),(3, .ptr (Be H+1) 0 0 0),(6, .d (.int .i64 10))] (rh H r bs (q+1) [.row 0 2 [.agg [.d (.int .i64 0), .nils 7]], .row 0 2 [c]])
   ⟨b,c,10,hg,hc,rfl,rfl,rfl,rfl,by omega,by omega,by omega⟩).out
  refine⟨b2,q+1, ?_,hg2,by omega,by omega⟩
  conv=>lhs;rw[hH]
  refine Bh (fn:=f42) rfl rfl ?_
  rcases hc2 with rfl| ⟨rfl,hz⟩
  ·simp(maxSteps:=1000000) [Ca,Dh,D8,D6,Dm,D9,Dn,Cv,Cs,D7,Dl,Gi,-List.getD_eq_getElem?_getD,-List.map_map,f42,o1,p14,he,g0,g2,g3,p30,f,he2,m2,m3]
  ·obtain⟨now2,ents⟩:=b2
   dsimp only at hz
   subst hz
   simp(maxSteps:=1000000) [Ca,Dh,D8,D6,Dm,D9,Dn,Cv,Cs,D7,Dl,Gi,-List.getD_eq_getElem?_getD,-List.map_map,f42,o1,p14,he,g0,g2,g3,p30,f,he2,m2,m3,F6]
 ·refine⟨b,q+1, ?_,hg,by omega,by omega⟩
  conv=>lhs;rw[hH]
  refine Bh (fn:=f42) rfl rfl ?_
  rcases hc with rfl| ⟨rfl,hz⟩
  ·simp(maxSteps:=1000000) [Ca,Dh,D8,D6,Dm,D9,Dn,Cv,Cs,D7,Dl,Gi,-List.getD_eq_getElem?_getD,-List.map_map,f42,o1,p14,he,g0,g2,g3,p30,f]
  ·obtain⟨now2,ents⟩:=b
   dsimp only at hz
   subst hz
   simp(maxSteps:=1000000) [Ca,Dh,D8,D6,Dm,D9,Dn,Cv,Cs,D7,Dl,Gi,-List.getD_eq_getElem?_getD,-List.map_map,f42,o1,p14,he,g0,g2,g3,p30,f,F6]
structure BaL (b:Ba):Prop where
 len:b.ents.length≤13
 each: ∀e∈b.ents,EnQ e
 now: -1≤b.now∧b.now≤2000000
theorem BaL.sm {b:Ba} (h:BaL b):BaSm b:=⟨by have:=h.len;omega,fun e he=> (h.each e he).sm⟩
theorem BaL.fit {b:Ba} (h:BaL b):BaFit b:=⟨by have:=h.now;exact⟨by omega,by omega⟩,by have:=h.len;omega,fun e he=> (h.each e he).fit⟩
theorem BaG.l {b:Ba} (h:BaG b):BaL b:=⟨by have:=h.len;omega,fun e he=>Yq (h.each e he),by have:=h.now;omega⟩
theorem Bob (n:Int) (e:En):D.agg [.int .i64 n, .vals 7 [F3 e]]=Db ⟨n,[e]⟩:=rfl
theorem Br0 (e:En) (z:Int):D.agg [.str e.key, .int .i64 e.till, .int .i64 z, .str e.text, .vals 1 (e.list.map D.str),Dj e.scores,Fw e.fields]=F3 ⟨e.key,e.till,z,e.text,e.list,e.scores,e.fields⟩:=rfl
def B16 (H:Hp) (r:Nat) (bs:List Int) (p:Int):Prop:=
 ∃ (b:Ba) (q:Int),ev R 21 [.ptr r 0 0 0] H=some (.d (Db b),Bw H r (rd bs q))∧BaL b∧p≤q∧q≤p+700
theorem B7q (H:Hp) (r:Nat) (bs:List Int) (p:Int) (h:Ce H r=some (rd bs p)) (hb:Dg bs) (hp:0≤p) (hp2:p≤10000000):B16 H r bs p:=by
 have hr:=Ff h
 have hH:=Blr H r bs h
 have bl: ∀l,∃ (b:Ba) (q:Int),ev R 42 [.ptr r 0 0 0] (rh H r bs p l)=some (.d (Db b),Bw (rh H r bs p l) r (rd bs q))∧BaG b∧p≤q∧q≤p+600:=fun l=>B7r _ r bs p (Bis H l r bs p hr) hb hp hp2
 obtain⟨⟨now,es⟩,q,e0,hg,q1,q2⟩:=bl [.row 0 2 [.agg [.d (.int .i64 0), .nils 7]]]
 rw[Bgd H _ r bs p hr] at e0
 clear bl
 have p16:=fun l=>La (H:=H) (l:=l) (r:=r) (bs:=bs) (q:=q) 16 hr hb (by omega) (by omega)
 have hL:=hg.l
 by_cases hes:es=[]
 ·subst hes
  have p0: ∀X,ev R 41 [.d (Db ⟨now,[]⟩)] X=some (.agg [.d (.int .i64 now), .nils 7],X):=fun X=>Bon ⟨now,[]⟩ hg.sm.len hg.sm.each X
  by_cases c0:Cy bs q 16=0
  ·have o1:=fun l=>Bls (H:=H) (l:=l) (r:=r) (bs:=bs) (q:=q+1) [-1,1000001,50] hr hb (by omega) (by omega) (by simp) (by simp)
   have om:=Bb8 bs (q+1) [-1,1000001,50] hb (by omega) (by omega) (by simp)
   generalize Bhv bs (q+1) [-1,1000001,50]=z at*
   simp only[Bsd,List.map_cons,List.map_nil] at o1
   refine⟨⟨z,[]⟩,q+1+1, ?_,⟨by simp,by simp,by simp only[List.mem_cons,List.not_mem_nil,or_false] at om;dsimp only;omega⟩,by omega,by omega⟩
   conv=>lhs;rw[hH]
   refine Bh (fn:=f21) rfl rfl ?_
   simp(maxSteps:=1000000) [Ca,Dh,D8,D6,Dm,D9,Dn,Cv,Cs,D7,Dl,Gi,-List.getD_eq_getElem?_getD,-List.map_map,f21,e0,p0,p16,c0,o1,F6]
  by_cases c1:Cy bs q 16=1
  ·refine⟨⟨now,[]⟩,q+1, ?_,hL,by omega,by omega⟩
   conv=>lhs;rw[hH]
   refine Bh (fn:=f21) rfl rfl ?_
   simp(maxSteps:=1000000) [Ca,Dh,D8,D6,Dm,D9,Dn,Cv,Cs,D7,Dl,Gi,-List.getD_eq_getElem?_getD,-List.map_map,f21,e0,p0,p16,c1,F6]
  by_cases c2:Cy bs q 16=2
  ·have o1:=fun l=>Bnr (H:=H) (l:=l) (r:=r) (bs:=bs) (q:=q+1) [[],[122,122],[97]] hr hb (by omega) (by omega) (by simp)
   have om:=Ui bs (q+1) [[],[122,122],[97]] 40 (by simp)
   generalize ofV bs (q+1) [[],[122,122],[97]]=z at*
   simp only[Bf,List.map_cons,List.map_nil] at o1
   have eq:EnQ ⟨z,0,1,[],[],[],[]⟩:=⟨by dsimp only;omega,by simp,by simp,by simp,by simp,by simp,by simp,by simp,by simp,by simp⟩
   refine⟨⟨now,[⟨z,0,1,[],[],[],[]⟩]⟩,q+1+1, ?_,⟨by simp,by simpa using eq,hL.now⟩,by omega,by omega⟩
   conv=>lhs;rw[hH]
   refine Bh (fn:=f21) rfl rfl ?_
   have rm: (120:Nat)≤Cq:=by unfold Cq;omega
   simp(maxSteps:=1000000) [Ca,Dh,D8,D6,Dm,D9,Dn,Cv,Cs,D7,Dl,Gi,-List.getD_eq_getElem?_getD,-List.map_map,f21,e0,p0,p16,c2,o1,Bob,rm]
  ·refine⟨⟨now,[]⟩,q+1, ?_,hL,by omega,by omega⟩
   conv=>lhs;rw[hH]
   refine Bh (fn:=f21) rfl rfl ?_
   simp(maxSteps:=1000000) [Ca,Dh,D8,D6,Dm,D9,Dn,Cv,Cs,D7,Dl,Gi,-List.getD_eq_getElem?_getD,-List.map_map,f21,e0,p0,p16,eq_false c0,eq_false c1,eq_false c2,F6]
 ·have p0: ∀X,ev R 41 [.d (Db ⟨now,es⟩)] X=some (.agg [.d (.int .i64 now), .slc (Be X) 0 0 es.length],ap X [.row 0 7 ((es.map F3).map V.d)]):=fun X=>by
   rw[Bon ⟨now,es⟩ hg.sm.len hg.sm.each X]
   cases es with
   |nil=>exact absurd rfl hes
   |cons z r=>rfl
  have hl:=hg.len
  dsimp only at hl
  have l0:0<es.length:=List.length_pos_iff.2 hes
  have l1: (0:Int)< (es.length:Int):=by omega
  have ft:List.take es.length ((es.map F3).map V.d)=(es.map F3).map V.d:=List.take_of_length_le (by simp)
  by_cases c0:Cy bs q 16=0
  ·have o1:=fun l=>Bls (H:=H) (l:=l) (r:=r) (bs:=bs) (q:=q+1) [-1,1000001,50] hr hb (by omega) (by omega) (by simp) (by simp)
   have om:=Bb8 bs (q+1) [-1,1000001,50] hb (by omega) (by omega) (by simp)
   generalize Bhv bs (q+1) [-1,1000001,50]=z at*
   simp only[Bsd,List.map_cons,List.map_nil] at o1
   refine⟨⟨z,es⟩,q+1+1, ?_,⟨hL.len,hL.each,by simp only[List.mem_cons,List.not_mem_nil,or_false] at om;dsimp only;omega⟩,by omega,by omega⟩
   conv=>lhs;rw[hH]
   refine Bh (fn:=f21) rfl rfl ?_
   simp(maxSteps:=1000000) [Ca,Dh,D8,D6,Dm,D9,Dn,Cv,Cs,D7,Dl,Gi,-List.getD_eq_getElem?_getD,-List.map_map,f21,e0,p0,p16,c0,o1,ft]
  by_cases c1:Cy bs q 16=1
  ·have o1:=fun l=>La (H:=H) (l:=l) (r:=r) (bs:=bs) (q:=q+1) es.length hr hb (by omega) (by omega)
   have o2:=fun l=>La (H:=H) (l:=l) (r:=r) (bs:=bs) (q:=q+1+1) 7 hr hb (by omega) (by omega)
   obtain⟨k0,k1⟩:=Jj bs (q+1) es.length hb (by omega) (by omega)
   obtain⟨k2,k3⟩:=Jj bs (q+1+1) 7 hb (by omega) (by omega)
   have k1:=k1 (by omega)
   have k3:=k3 (by omega)
   generalize Cy bs (q+1) es.length=i at*
   generalize Cy bs (q+1+1) 7=kd at*
   obtain⟨i,rfl⟩:=Int.eq_ofNat_of_zero_le k0
   have hi:i<es.length:=by omega
   have hm:es[i]∈es:=List.getElem_mem hi
   have hq:=hL.each _ hm
   obtain⟨E,g⟩: ∃E,es[i]=E:=⟨_,rfl⟩
   rw[g] at hm hq
   have sf:=Bcz F3 es i ⟨E.key,E.till,kd,E.text,E.list,E.scores,E.fields⟩
   have sl: (es.set i ⟨E.key,E.till,kd,E.text,E.list,E.scores,E.fields⟩).length=es.length:=List.length_set
   have ee:EnQ ⟨E.key,E.till,kd,E.text,E.list,E.scores,E.fields⟩:=⟨hq.key,hq.text,hq.list,hq.lists,hq.scores,hq.scoress,hq.fields,hq.fieldss,hq.till,by dsimp only;omega⟩
   have em: ∀e∈es.set i ⟨E.key,E.till,kd,E.text,E.list,E.scores,E.fields⟩,EnQ e:=fun e he=>by
    rcases List.mem_or_eq_of_mem_set he with h1|h1
    ·exact hL.each e h1
    ·rw[h1];exact ee
   generalize es.set i ⟨E.key,E.till,kd,E.text,E.list,E.scores,E.fields⟩=ES at*
   have ft2:List.take es.length ((ES.map F3).map V.d)=(ES.map F3).map V.d:=List.take_of_length_le (by simp[sl])
   refine⟨⟨now,ES⟩,q+1+1+1, ?_,⟨by dsimp only;omega,em,hL.now⟩,by omega,by omega⟩
   conv=>lhs;rw[hH]
   refine Bh (fn:=f21) rfl rfl ?_
   simp(maxSteps:=1000000) [Ca,Dh,D8,D6,Dm,D9,Dn,Cv,Cs,D7,Dl,Gi,-List.getD_eq_getElem?_getD,-List.map_map,f21,e0,p0,p16,c1,o1,o2,l0,l1,hi,k1,g,sf,sl,ft2,Br0]
  by_cases c2:Cy bs q 16=2
  ·have o1:=fun l=>Bnr (H:=H) (l:=l) (r:=r) (bs:=bs) (q:=q+1) [[],[122,122],[97]] hr hb (by omega) (by omega) (by simp)
   have om:=Ui bs (q+1) [[],[122,122],[97]] 40 (by simp)
   generalize ofV bs (q+1) [[],[122,122],[97]]=z at*
   simp only[Bf,List.map_cons,List.map_nil] at o1
   have eq:EnQ ⟨z,0,1,[],[],[],[]⟩:=⟨by dsimp only;omega,by simp,by simp,by simp,by simp,by simp,by simp,by simp,by simp,by simp⟩
   obtain⟨ES,hES⟩: ∃ES,ES=es++[(⟨z,0,1,[],[],[],[]⟩:En)]:=⟨_,rfl⟩
   have sf:List.map V.d (List.map F3 es)++[V.d (F3 ⟨z,0,1,[],[],[],[]⟩)]=List.map V.d (List.map F3 ES):=by rw[hES];simp
   have sl:ES.length=es.length+1:=by rw[hES];simp
   have em: ∀e∈ES,EnQ e:=fun e he=>by
    rw[hES] at he
    simp only[List.mem_append,List.mem_singleton] at he
    rcases he with h1|h1
    ·exact hL.each e h1
    ·rw[h1];exact eq
   refine⟨⟨now,ES⟩,q+1+1, ?_,⟨by dsimp only;omega,em,hL.now⟩,by omega,by omega⟩
   conv=>lhs;rw[hH]
   refine Bh (fn:=f21) rfl rfl ?_
   have rm: (es.length+1)*120≤Cq:=by unfold Cq;omega
   have ft2:List.take (es.length+1) ((ES.map F3).map V.d)=(ES.map F3).map V.d:=List.take_of_length_le (by simp[sl])
   simp(maxSteps:=1000000) [Ca,Dh,D8,D6,Dm,D9,Dn,Cv,Cs,D7,Dl,Gi,-List.getD_eq_getElem?_getD,-List.map_map,f21,e0,p0,p16,c2,o1,rm,sf,sl,ft2]
  ·refine⟨⟨now,es⟩,q+1, ?_,hL,by omega,by omega⟩
   conv=>lhs;rw[hH]
   refine Bh (fn:=f21) rfl rfl ?_
   simp(maxSteps:=1000000) [Ca,Dh,D8,D6,Dm,D9,Dn,Cv,Cs,D7,Dl,Gi,-List.getD_eq_getElem?_getD,-List.map_map,f21,e0,p0,p16,eq_false c0,eq_false c1,eq_false c2,ft]
theorem Bkf {e:En} (h:Pn e=true):Gq e=false:=by
 unfold Pn at h
 simp only[Bool.and_eq_true,decide_eq_true_eq] at h
 obtain⟨⟨h1,h2⟩,h3⟩:=h
 have a1:e.list=[]:=List.eq_nil_of_length_eq_zero (by omega)
 have a2:e.scores=[]:=List.eq_nil_of_length_eq_zero (by omega)
 have a3:e.fields=[]:=List.eq_nil_of_length_eq_zero (by omega)
 unfold Gq Mc
 rw[if_neg h1,a1,a2,a3,h2]
 simp
theorem Bpn {b:Ba} (h:BaO b) {t:Bq} (hk:Fh b.ents t=true): (Bz b t).key=t∧Bz b t∈b.ents∧Nc (Co b t) (Bz b t)=(b,true):=by
 have hl:=Kl hk
 have hm:b.ents.getD (Ga b.ents t) default∈b.ents:=Jp hl
 have hkey: (b.ents.getD (Ga b.ents t) default).key=t:=by
  have hk2:=hk
  unfold Fh at hk2
  rw[Bool.and_eq_true] at hk2
  exact of_decide_eq_true hk2.2
 have hg:Bz b t=b.ents.getD (Ga b.ents t) default:=by unfold Bz;rw[if_pos hk]
 have hdl:b.ents.drop (Ga b.ents t)=b.ents.getD (Ga b.ents t) default::b.ents.drop (Ga b.ents t+1):=by
  rw[List.drop_eq_getElem_cons hl]
  simp[List.getD_eq_getElem?_getD,hl]
 rw[hg]
 obtain⟨he,hfr⟩:=h.each _ hm
 generalize b.ents.getD (Ga b.ents t) default=e at*
 refine⟨hkey,hm, ?_⟩
 have hn:=Tj h t
 have hdd:Co (Co b t) e.key=Co b t:=by
  show(if Fh (Co b t).ents e.key=true then _ else Co b t)=Co b t
  rw[hkey,hn];rfl
 have Be: (Co b t).ents.length+1=b.ents.length:=by
  unfold Co
  rw[if_pos hk]
  simp only[Ms _ _ hl];omega
 have hemp:Pn e=false:=by
  cases hq:Pn e with
  |false=>rfl
  |true=>exact absurd he (by rw[Bkf hq];simp)
 have hmay:Mv (Co b t) e=true:=by
  unfold Mv
  rw[he,hdd,Me]
  have:=h.len
  have h3: (Co b t).ents.length<12:=by omega
  rcases hfr with h4|h4
  ·simp[h3,h4]
  ·have: ¬e.till≤b.now:=by omega
   simp[h3,this]
 unfold Nc
 rw[hemp,hmay,hdd]
 simp only[Bool.false_eq_true,if_false,if_true,Prod.mk.injEq,and_true]
 have hp:=Q7 h.asc t
 have hk2:Ga (Co b t).ents e.key=Ga b.ents t:=by
  rw[hkey]
  unfold Co
  rw[if_pos hk]
  have ha:=h.asc.sublist (List.drop_sublist (Ga b.ents t) b.ents)
  rw[hdl] at ha
  show(List.takeWhile _ (b.ents.take (Ga b.ents t)++b.ents.drop (Ga b.ents t+1))).length=_
  rw[List.takeWhile_append_of_pos (fun x hx=>hp.1 x hx),List.length_append,List.length_take]
  have:List.takeWhile (fun e:En=>Op.bytesLess e.key t) (b.ents.drop (Ga b.ents t+1))=[]:=by
   cases hd:b.ents.drop (Ga b.ents t+1) with
   |nil=>rfl
   |cons y r=>
    have hy:=List.rel_of_pairwise_cons ha (show y∈b.ents.drop (Ga b.ents t+1) by rw[hd];simp)
    rw[List.takeWhile_cons]
    cases hq:Op.bytesLess y.key t with
    |false=>rfl
    |true=>have:=Pt hy hq;rw[hkey,Jh] at this;simp at this
  rw[this,List.length_nil];omega
 rw[hk2,Me]
 unfold Co
 rw[if_pos hk]
 simp only[Gx,Fa]
 have hlt: (b.ents.take (Ga b.ents t)).length=Ga b.ents t:=by rw[List.length_take];omega
 have l1: (b.ents.take (Ga b.ents t)++b.ents.drop (Ga b.ents t+1)).take (Ga b.ents t)=b.ents.take (Ga b.ents t):=by
  rw[List.take_append_of_le_length (by omega),List.take_of_length_le (by omega)]
 have l2: (b.ents.take (Ga b.ents t)++b.ents.drop (Ga b.ents t+1)).drop (Ga b.ents t)=b.ents.drop (Ga b.ents t+1):=by
  rw[List.drop_append_of_le_length (by omega),List.drop_of_length_le (by omega),List.nil_append]
 rw[l1,l2,←hdl,List.take_append_drop]
def Uz:List Bq:=[[107],[108],[115],[122],[104],[107,50],[108]]
theorem Bw2 (bs:List Int) (q:Int) (ns:List Bq) (hb:Dg bs) (h0:0≤q) (h1:q≤1000000000000) (hn:0<ns.length):ofV bs q ns∈ns:=by
 unfold ofV
 have:=Jj bs q ns.length hb h0 h1
 have h2:=this.2 (by omega)
 have hi: (Cy bs q ns.length).toNat<ns.length:=by omega
 rw[List.getD_eq_getElem?_getD,List.getElem?_eq_getElem hi]
 exact List.getElem_mem hi
theorem B3l (H:Hp) (r:Nat) (bs:List Int) (q q':Int) {o:Ev.Obj} (h:Ce H r=some o) (hb:Dg bs) (hq:0≤q) (hq2:q≤100000000000) (hq':q'=q+1):
  ∃t:Bq,t∈Uz∧ev R 22 [.ptr r 0 0 0] (Bw H r (rd bs q))=some (.d (.str t),Bw H r (rd bs q')):=by
 subst hq'
 have e:=Bwh (Bw H r (rd bs q)) r bs q Uz (Cn _ (Ff h)) hb hq (by omega) (by simp[Uz])
 rw[K9] at e
 refine⟨_,Bw2 bs q Uz hb hq (by omega) (by simp[Uz]),Bh (fn:=f22) rfl rfl ?_⟩
 generalize ofV bs q Uz=t at*
 have hl:=J2 (Bw H r (rd bs (q+1)))
 rw[Br] at hl
 have hl2:=Br H r (rd bs q)
 simp only[Uz,Bf,List.map_cons,List.map_nil] at e
 simp[Cm,-List.getD_eq_getElem?_getD,-List.map_map,f22,e,hl,hl2]
theorem k_7 (H:Hp) (bs:List Int) (h: ∀i,0≤bs.getD i 0∧bs.getD i 0≤255):
  ∃ (b:Ba) (t:Bq),ev R 7 [.d (Pm bs)] H=some (.tup [.d (Db b), .d (.str t)],H)∧BaL b∧t∈Uz:=by
 have ho:=Bed bs h
 have o1:=fun H=>B2l H bs
 obtain⟨b,q,e1,hL,q1,q2⟩:=B7q (ap H [.row 0 2 [.agg [.d (.int .i64 0), .nils 7]],rd (Le bs) 0]) (Be H+1) (Le bs) 0 (by rw[Mm];rfl) ho (by omega) (by omega)
 rw[Rn] at e1
 obtain⟨t,ht,e2⟩:=B3l (ap H [.row 0 2 [.agg [.d (.int .i64 0), .nils 7]],rd (Le bs) q]) (Be H+1) (Le bs) q (q+1) (o:=rd (Le bs) q) (by rw[Mm];rfl) ho (by omega) (by omega) rfl
 rw[Rn,Rn] at e2
 simp only[Bw] at e1 e2
 refine⟨b,t, ?_,hL,ht⟩
 refine Bh (fn:=f7) rfl rfl ?_
 simp(maxSteps:=1000000) [Ca,-List.getD_eq_getElem?_getD,-List.map_map,f7,o1,e1,e2]
theorem Bwy {t:Bq} (h:t∈Uz):1≤t.length∧t.length≤2:=by
 simp only[Uz,List.mem_cons,List.not_mem_nil,or_false] at h
 rcases h with rfl|rfl|rfl|rfl|rfl|rfl|rfl<;>decide
theorem B71 (H:Hp) (bs:List Int) (h: ∀i,0≤bs.getD i 0∧bs.getD i 0≤255): ∃ts:List Bq,ts.length≤14∧Bgt ts∧ev R 15 [.d (Pm bs)] H=some (.d (Bf ts),H):=by
 have ho:=Bed bs h
 have o1:=fun H=>B2l H bs
 obtain⟨ts,q,e1,q1,q2,l,hs⟩:=B7f (ap H [rd (Le bs) 0]) (Be H) (Le bs) 0 (by rw[Bai];rfl) ho (by omega) (by omega)
 rw[Be7] at e1
 simp only[Bw] at e1
 refine⟨ts,l,hs,Bh (fn:=f15) rfl rfl ?_⟩
 simp(maxSteps:=1000000) [Ca,-List.getD_eq_getElem?_getD,-List.map_map,f15,o1,e1]
end Go.Proofs.YtpajcoanfkeibaaGreatDoor.Code

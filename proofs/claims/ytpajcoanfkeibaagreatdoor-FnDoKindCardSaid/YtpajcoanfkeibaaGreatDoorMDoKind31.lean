/- Lemmas (several texts in one). -/
import Derived.Test.YtpajcoanfkeibaaGreatDoorMDoKind6
import Derived.Test.YtpajcoanfkeibaaGreatDoorMDoKind21
import Derived.Test.YtpajcoanfkeibaaGreatDoorMDoKind23
import Derived.Test.YtpajcoanfkeibaaGreatDoorMDoKind24
import Derived.Test.YtpajcoanfkeibaaGreatDoorMDoKind25
import Derived.Test.YtpajcoanfkeibaaGreatDoorMDoKind30
set_option maxRecDepth 100000
set_option maxHeartbeats 4000000
set_option linter.unusedSimpArgs false
set_option linter.unusedVariables false
open List renaming getD_eq_getElem?_getD → Cda, map_map → Cdb, length_cons → Cdc, length_nil → Cdf, map_cons → Cdd, map_nil → Cde, mem_cons → Cdj, not_mem_nil → Cdp, take_of_length_le → Cdg, getElem_mem → Cdr, eq_nil_of_length_eq_zero → Cdk, length_take → Cdn
open Bool renaming and_eq_true → Cdv
namespace Go.Proofs.YtpajcoanfkeibaaGreatDoor.Code
open Go Go.Ev Go.Proofs
def Bmt (c:V) (b:Ba):Prop:=c= .d (Df b)∨(c= .agg [.d (.int .i64 b.now), .nils 7]∧b.ents=[])
theorem Bxy {b:Ba} (hb:BaG b) (ks:List Br):BaG (Bco b ks).1:=by
 unfold Bco
 have key: ∀ (n i:Nat) (s:Ba×Nat),BaG s.1→BaG ((List.range' i n).foldl (fun s i=>Xf ks i s) s).1:=by
  intro n
  induction n with
  |zero=>intro i s h;exact h
  |succ n ih=>intro i s h;rw[List.range'_succ,List.foldl_cons];exact ih _ _ (Bos ks i s h)
 exact key _ _ _ hb
theorem Bpy (b:Ba) (ks:List Br): (Blv b ks).1=b:=by
 unfold Blv
 have key: ∀ (n i:Nat) (s:Ba×Nat),((List.range' i n).foldl (fun s i=>Bfo ks i s) s).1=s.1:=by
  intro n
  induction n with
  |zero=>intro i s;rfl
  |succ n ih=>intro i s;rw[List.range'_succ,List.foldl_cons,ih];rfl
 exact key _ _ _
theorem Js {b:Ba} {c:Prop} [Decidable c] {x y:Ba×Re} (hx:BaG x.1) (hy:BaG y.1):BaG (if c then x else y).1:=by split<;>assumption
theorem Biy {b:Ba} (hb:BaG b) (k:Br) (n:Int):BaG (Y7 b k n).1:=by
 unfold Y7
 exact Js (b:=b) hb (Js (b:=b) (Tf hb k) (Gw hb _ _))
theorem B1j {b:Ba} (hb:BaG b) (w:Br) (r:List Br):BaG (Dc b w r).1:=by
 unfold Dc
 repeat' (with_reducible refine Js (b:=b) ?_ ?_)
 all_goals first
  |exact hb
  | (unfold Bcm;exact Js (b:=b) (Gw hb _ _) hb)
  | (unfold Bp0;exact Gw hb _ _)
  | (unfold Ug;exact Js (b:=b) hb (Gw hb _ _))
  | (unfold Ny;exact Js (b:=b) hb hb)
  | (unfold Ti;exact Js (b:=b) (Gw hb _ _) hb)
  | (unfold Bcp;exact Js (b:=b) (Gw hb _ _) hb)
  | (unfold Uj;exact Js (b:=b) hb hb)
  | (unfold Y6;exact Js (b:=b) (Gw hb _ _) hb)
  | (unfold Bew;exact Js (b:=b) (Js (b:=b) (Gw hb _ _) hb) hb)
  | (unfold Bev;exact Js (b:=b) (Gw hb _ _) hb)
  | (unfold Bex;exact Js (b:=b) (Gw hb _ _) hb)
  | (unfold Bey;exact Gw hb _ _)
  | (unfold Bez;exact Js (b:=b) (Js (b:=b) (Gw hb _ _) hb) hb)
  | (unfold Qx;exact Js (b:=b) (Js (b:=b) (Gw hb _ _) hb) hb)
  | (unfold Ul;exact Js (b:=b) hb hb)
  | (unfold Jv;exact Js (b:=b) hb hb)
  | (unfold Be0;exact Gw hb _ _)
  | (unfold Beu;exact Js (b:=b) (Gw hb _ _) hb)
  | (unfold Bet;exact Gw hb _ _)
  | (unfold Qu;exact Js (b:=b) (Js (b:=b) (Gw hb _ _) hb) hb)
  | (unfold Qv;exact Gw hb _ _)
  | (unfold Ui;exact Js (b:=b) (Biy hb _ _) hb)
  | (unfold Nw;exact Js (b:=b) (Biy hb _ _) hb)
  | (unfold Uk;exact Js (b:=b) hb (Gw (Tf hb _) _ _))
  | (unfold Bpw;exact Bxy hb _)
  | (unfold Uh;dsimp only;rw[Bpy];exact hb)
  | (unfold Y4;exact⟨by simp,by simp,hb.now⟩)
theorem B7e {b:Ba} (hb:BaG b) (args:List Br):BaG (rDo b args).1:=by
 unfold rDo
 exact Js (b:=b) (B1j hb _ _) hb
def Bmr (H:Hp) (r:Nat) (bs:List Int) (A:Ev.Obj) (q0:Int) (k:Nat) (e:Env) (X:Hp):Prop:=
 ∃ (b:Ba) (c:V) (q:Int),BaG b∧Bmt c b∧X=rh H r bs q [A, .row 0 2 [c]]∧e.get 0= .ptr r 0 0 0∧e.get 2= .ptr (Bc H) 0 0 0∧e.get 3= .ptr (Bc H+1) 0 0 0∧e.get 4= .d (.int .i64 k)∧q0≤q∧q≤q0+30*(14 - k)∧k≤14
def Brd (H:Hp) (r:Nat) (bs:List Int) (A:Ev.Obj) (q0:Int) (o:Out) (e:Env) (X:Hp):Prop:=
 o= .exit 0∧∃ (b:Ba) (c:V) (q:Int),BaG b∧Bmt c b∧X=rh H r bs q [A, .row 0 2 [c]]∧e.get 0= .ptr r 0 0 0∧e.get 2= .ptr (Bc H) 0 0 0∧e.get 3= .ptr (Bc H+1) 0 0 0∧q0≤q∧q≤q0+500
theorem Bpf {ts:List Br} (h1:1≤ts.length) (h8:ts.length≤8) (hs: ∀x∈ts,x.length≤40):Pk ts=true:=(Wj ts).2 ⟨hs,h1,h8⟩
theorem B8k (H:Hp) (r:Nat) (bs:List Int) (A:Ev.Obj) (q0:Int) (hr:r<Bc H) (hb:Dl bs) (h0:0≤q0) (h1:q0≤100000000) (k:Nat) (e:Env) (X:Hp) (hI:Bmr H r bs A q0 k e X):
  Gives (Brd H r bs A q0) (Bg (Bq (ev R) R.glob (Bc H) Bg Pg) [0,2,3,4] ⟨e,X⟩):=by
 refine Bb3 (F:=Bq (ev R) R.glob (Bc H) Bg Pg) (lv:=[0,2,3,4]) (Bmr H r bs A q0) (Brd H r bs A q0) ?_ k e X hI
 show ∀n e X,Bmr H r bs A q0 n e X→Gives (Yh (Nxt (Bmr H r bs A q0) n) (Brd H r bs A q0)) _
 rintro n e X ⟨b,c,q,hg,hc,rfl,g0,g2,g3,g4,hq0,hq1,hk⟩
 cases n with
 |zero=>
  simp(maxSteps:=1000000) [Ci,D8,Gd,F8,Fj,Gf,Fp,Fq,Dv,Gc,Fh,Jw,-Cda,-Cdb,Pg,g0,g2,g3,g4]
  exact⟨rfl,b,c,q,hg,hc,rfl,rfl,rfl,rfl,hq0,by omega⟩
 |succ n=>
  obtain⟨ts,q1,ho,a1,a2,t1,t8,ts40⟩:=Btw (l:=[A, .row 0 2 [c]]) hr hb (show 0≤q by omega) (show q≤1000000000 by omega)
  simp only[Cdc,Cdf,List.cons_append,List.nil_append] at ho
  have fz:=fun c'=>B1l H [A, .row 0 2 [c'], .row 0 1 ((ts.map D.str).map V.d)] r bs q1 2 2 0 1 ts.length (ts.map D.str) (by omega) rfl (by simp)
  have hd:=Car b ts hg (Bpf t1 t8 ts40)
  have hdg:=B7e hg ts
  have g:=Dk ts 0 (by omega)
  have c0: (0:Int)< (ts.length:Int):=by omega
  have c1:0<ts.length:=by omega
  have cn: (0:Int)< (n:Int)+1:=by omega
  have w:IntKind.i64.wrap ((n:Int)+1 - 1)=(n:Int):=by rw[IntWalk.i64_in _ (by omega)];omega
  have w':IntKind.i64.wrap (n:Int)=(n:Int):=IntWalk.i64_in _ (by omega)
  generalize rDo b ts=P at*
  obtain⟨b1,re⟩:=P
  dsimp only[Bo] at hd hdg
  have pk4:=fun l=>Mo (H:=H) (l:=l) (r:=r) (bs:=bs) (q:=q1) 4 hr hb (by omega) (by omega)
  have pk6:=fun l=>Mo (H:=H) (l:=l) (r:=r) (bs:=bs) (q:=q1) 6 hr hb (by omega) (by omega)
  have pk61:=fun l=>Mo (H:=H) (l:=l) (r:=r) (bs:=bs) (q:=q1+1) 6 hr hb (by omega) (by omega)
  have pk46:=fun l=>Mo (H:=H) (l:=l) (r:=r) (bs:=bs) (q:=q1+1) 4 hr hb (by omega) (by omega)
  have pk461:=fun l=>Mo (H:=H) (l:=l) (r:=r) (bs:=bs) (q:=q1+1+1) 4 hr hb (by omega) (by omega)
  obtain⟨k40,_⟩:=Jg bs (q1+1) 4 hb (by omega) (by omega)
  obtain⟨k41,k42⟩:=Jg bs (q1+1) 4 hb (by omega) (by omega)
  obtain⟨k43,k44⟩:=Jg bs (q1+1+1) 4 hb (by omega) (by omega)
  have k42:=k42 (by omega)
  have k44:=k44 (by omega)
  have tk: ∀ (B:Ba) (hB:BaG B) (z:Int),0≤z→z<4→Be (ev R) 66 [.d (Df B), .d (.int .i64 z)]=some (.d (Df (Ye B z))):=fun B hB z z0 z1=>Cas B z hB.sm hB.fit (by have:=hB.now;omega) (by omega)
  have tkb1:=tk b hg _ k41 k42
  have tkb2:=tk b hg _ k43 k44
  have tkc1:=tk b1 hdg _ k41 k42
  have tkc2:=tk b1 hdg _ k43 k44
  have vb1:=Ba0 hg (Dg bs (q1+1) 4)
  have vb2:=Ba0 hg (Dg bs (q1+1+1) 4)
  have vc1:=Ba0 hdg (Dg bs (q1+1) 4)
  have vc2:=Ba0 hdg (Dg bs (q1+1+1) 4)
  clear tk k40
  generalize Ye b (Dg bs (q1+1) 4)=B1 at*
  generalize Ye b (Dg bs (q1+1+1) 4)=B2 at*
  generalize Ye b1 (Dg bs (q1+1) 4)=C1 at*
  generalize Ye b1 (Dg bs (q1+1+1) 4)=C2 at*
  by_cases f:ts.getD 0 []=[70,76,85,83,72]
  ·by_cases f4:Dg bs q1 4=0
   ·by_cases f6:Dg bs (q1+1) 6=0
    ·rcases hc with rfl| ⟨rfl,hn⟩
     ·simp(maxSteps:=1000000) [Ci,D8,Gd,F8,Fj,Gf,Fp,Fq,Dv,Gc,Fh,Jw,-Cda,-Cdb,Pg,g0,g2,g3,g4,ho,fz,hd,g,c0,c1,cn,w,w',eq_true f,pk4,pk61,pk461,f4,f6,tkc2]
      exact⟨n,by omega,C2,_,q1+1+1+1,vc2, .inl rfl,rfl,rfl,rfl,rfl,rfl,by omega,by omega,by omega⟩
     ·obtain⟨now,ents⟩:=b
      dsimp only at hn
      subst hn
      simp(maxSteps:=1000000) [Ci,D8,Gd,F8,Fj,Gf,Fp,Fq,Dv,Gc,Fh,Jw,-Cda,-Cdb,Pg,g0,g2,g3,g4,ho,fz,hd,g,c0,c1,cn,w,w',eq_true f,pk4,pk61,pk461,f4,f6,tkc2,Gj]
      exact⟨n,by omega,C2,_,q1+1+1+1,vc2, .inl rfl,rfl,rfl,rfl,rfl,rfl,by omega,by omega,by omega⟩
    ·rcases hc with rfl| ⟨rfl,hn⟩
     ·simp(maxSteps:=1000000) [Ci,D8,Gd,F8,Fj,Gf,Fp,Fq,Dv,Gc,Fh,Jw,-Cda,-Cdb,Pg,g0,g2,g3,g4,ho,fz,hd,g,c0,c1,cn,w,w',eq_true f,pk4,pk61,f4,f6]
      exact⟨n,by omega,b1,_,q1+1+1,hdg, .inl rfl,rfl,rfl,rfl,rfl,rfl,by omega,by omega,by omega⟩
     ·obtain⟨now,ents⟩:=b
      dsimp only at hn
      subst hn
      simp(maxSteps:=1000000) [Ci,D8,Gd,F8,Fj,Gf,Fp,Fq,Dv,Gc,Fh,Jw,-Cda,-Cdb,Pg,g0,g2,g3,g4,ho,fz,hd,g,c0,c1,cn,w,w',eq_true f,pk4,pk61,f4,f6,Gj]
      exact⟨n,by omega,b1,_,q1+1+1,hdg, .inl rfl,rfl,rfl,rfl,rfl,rfl,by omega,by omega,by omega⟩
   ·by_cases f6:Dg bs (q1+1) 6=0
    ·rcases hc with rfl| ⟨rfl,hn⟩
     ·simp(maxSteps:=1000000) [Ci,D8,Gd,F8,Fj,Gf,Fp,Fq,Dv,Gc,Fh,Jw,-Cda,-Cdb,Pg,g0,g2,g3,g4,ho,fz,g,c0,c1,cn,w,w',eq_true f,pk4,pk61,pk461,f4,f6,tkb2]
      exact⟨n,by omega,B2,_,q1+1+1+1,vb2, .inl rfl,rfl,rfl,rfl,rfl,rfl,by omega,by omega,by omega⟩
     ·obtain⟨now,ents⟩:=b
      dsimp only at hn
      subst hn
      simp(maxSteps:=1000000) [Ci,D8,Gd,F8,Fj,Gf,Fp,Fq,Dv,Gc,Fh,Jw,-Cda,-Cdb,Pg,g0,g2,g3,g4,ho,fz,g,c0,c1,cn,w,w',eq_true f,pk4,pk61,pk461,f4,f6,tkb2,Gj]
      exact⟨n,by omega,B2,_,q1+1+1+1,vb2, .inl rfl,rfl,rfl,rfl,rfl,rfl,by omega,by omega,by omega⟩
    ·simp(maxSteps:=1000000) [Ci,D8,Gd,F8,Fj,Gf,Fp,Fq,Dv,Gc,Fh,Jw,-Cda,-Cdb,Pg,g0,g2,g3,g4,ho,fz,g,c0,c1,cn,w,w',eq_true f,pk4,pk61,f4,f6]
     exact⟨n,by omega,b,c,q1+1+1,hg,hc,rfl,rfl,rfl,rfl,rfl,by omega,by omega,by omega⟩
  ·by_cases f6:Dg bs q1 6=0
   ·rcases hc with rfl| ⟨rfl,hn⟩
    ·simp(maxSteps:=1000000) [Ci,D8,Gd,F8,Fj,Gf,Fp,Fq,Dv,Gc,Fh,Jw,-Cda,-Cdb,Pg,g0,g2,g3,g4,ho,fz,hd,g,c0,c1,cn,w,w',eq_false f,pk6,pk46,f6,tkc1]
     exact⟨n,by omega,C1,_,q1+1+1,vc1, .inl rfl,rfl,rfl,rfl,rfl,rfl,by omega,by omega,by omega⟩
    ·obtain⟨now,ents⟩:=b
     dsimp only at hn
     subst hn
     simp(maxSteps:=1000000) [Ci,D8,Gd,F8,Fj,Gf,Fp,Fq,Dv,Gc,Fh,Jw,-Cda,-Cdb,Pg,g0,g2,g3,g4,ho,fz,hd,g,c0,c1,cn,w,w',eq_false f,pk6,pk46,f6,tkc1,Gj]
     exact⟨n,by omega,C1,_,q1+1+1,vc1, .inl rfl,rfl,rfl,rfl,rfl,rfl,by omega,by omega,by omega⟩
   ·rcases hc with rfl| ⟨rfl,hn⟩
    ·simp(maxSteps:=1000000) [Ci,D8,Gd,F8,Fj,Gf,Fp,Fq,Dv,Gc,Fh,Jw,-Cda,-Cdb,Pg,g0,g2,g3,g4,ho,fz,hd,g,c0,c1,cn,w,w',eq_false f,pk6,f6]
     exact⟨n,by omega,b1,_,q1+1,hdg, .inl rfl,rfl,rfl,rfl,rfl,rfl,by omega,by omega,by omega⟩
    ·obtain⟨now,ents⟩:=b
     dsimp only at hn
     subst hn
     simp(maxSteps:=1000000) [Ci,D8,Gd,F8,Fj,Gf,Fp,Fq,Dv,Gc,Fh,Jw,-Cda,-Cdb,Pg,g0,g2,g3,g4,ho,fz,hd,g,c0,c1,cn,w,w',eq_false f,pk6,f6,Gj]
     exact⟨n,by omega,b1,_,q1+1,hdg, .inl rfl,rfl,rfl,rfl,rfl,rfl,by omega,by omega,by omega⟩
def xk (m:Nat):Br:=120::Qp m
theorem Bmp (m:Nat) (h1:10≤m) (h2:m<100):xk m=[120,UInt8.ofNat (48+m / 10),UInt8.ofNat (48+m % 10)]:=by
 unfold xk Qp
 rw[if_neg (by omega),Int.toNat_natCast,Sk,dif_neg (by omega),Sk,dif_pos (by omega)]
 rfl
theorem B2b {m n:Nat} (h1:10≤m) (h2:m<100) (h3:10≤n) (h4:n<100) (h:xk m=xk n):m=n:=by
 rw[Bmp m h1 h2,Bmp n h3 h4] at h
 simp only[List.cons.injEq,true_and,and_true] at h
 obtain⟨a,b⟩:=h
 have a:=congrArg UInt8.toNat a
 have b:=congrArg UInt8.toNat b
 simp only[UInt8.toNat_ofNat'] at a b
 omega
def Tp (n:Nat) (e:En):Bool:=(List.range 40).all fun m=> !(decide (n≤m) &&decide (e.key=xk m))
theorem Yc (n:Nat) (e:En):Tp n e=true↔∀m,n≤m→m<40→e.key≠xk m:=by
 unfold Tp
 rw[List.all_eq_true]
 constructor
 ·intro h m h1 h2 h3
  have:=h m (List.mem_range.2 h2)
  simp[h1,h3] at this
 ·intro h m hm
  have hm:=List.mem_range.1 hm
  by_cases h1:n≤m
  ·simp[h1,h m h1 hm]
  ·simp[h1]
theorem Bp8 {n:Nat} {e:En} (h:Tp n e=true):Tp (n+1) e=true:=(Yc _ _).2 fun m h1 h2=> (Yc _ _).1 h m (by omega) h2
theorem Bkj (p:En→Bool) (es:List En) (k:Nat) (hk:k<es.length) (hp:p (es.getD k default)=false): (Ka es k).countP p=es.countP p:=by
 have h:es=es.take k++es.getD k default::es.drop (k+1):=by rw[←Bhe es k default hk,List.take_append_drop]
 conv=>rhs;rw[h]
 unfold Ka
 rw[List.countP_append,List.countP_append,List.countP_cons_of_neg (by rw[hp];simp)]
theorem Bv9 (n:Nat) (h1:10≤n) (h2:n<40):Gl ⟨xk n,0,1,[],[],[],[]⟩=true:=by
 rw[Bmp n h1 (by omega)]
 rfl
theorem Btg {b:Ba} (n:Nat) (h1:10≤n) (h2:n<40) (hl:b.ents.length<12):b.ents.countP (Tp n)+1≤(P5 b ⟨xk n,0,1,[],[],[],[]⟩).1.ents.countP (Tp (n+1)):=by
 have hd: (Ga b (xk n)).ents.length<12:=by have:=X3 b (xk n);omega
 have hp:P5 b ⟨xk n,0,1,[],[],[],[]⟩=(⟨b.now,Jr (Ga b (xk n)).ents (Jt (Ga b (xk n)).ents (xk n)) ⟨xk n,0,1,[],[],[],[]⟩⟩,true):=by
  unfold P5
  rw[if_neg (by simp[Sm]),if_pos (by unfold Y3;rw[Bv9 n h1 h2];simp[hd])]
 rw[hp]
 have hs:Tp (n+1) ⟨xk n,0,1,[],[],[],[]⟩=true:=(Yc _ _).2 fun m a c h=>by have:=B2b h1 (by omega) (by omega) (by omega) h;omega
 dsimp only
 unfold Jr
 rw[List.countP_append,List.countP_cons_of_pos hs]
 have h3: ((Ga b (xk n)).ents.take (Jt (Ga b (xk n)).ents (xk n))).countP (Tp (n+1))+((Ga b (xk n)).ents.drop (Jt (Ga b (xk n)).ents (xk n))).countP (Tp (n+1))=(Ga b (xk n)).ents.countP (Tp (n+1)):=by
  rw[←List.countP_append,List.take_append_drop]
 have h4: (Ga b (xk n)).ents.countP (Tp n)≤(Ga b (xk n)).ents.countP (Tp (n+1)):=List.countP_mono_left fun e _ h=>Bp8 h
 have h5: (Ga b (xk n)).ents.countP (Tp n)=b.ents.countP (Tp n):=by
  unfold Ga
  split
  ·rename_i hh
   refine Bkj _ _ _ (Ls hh) ?_
   unfold G6 at hh
   simp only[Cdv,decide_eq_true_eq] at hh
   cases hse:Tp n (b.ents.getD (Jt b.ents (xk n)) default) with
   |false=>rfl
   |true=>exact absurd hh.2 ((Yc _ _).1 hse n (Nat.le_refl _) h2)
  ·rfl
 omega
def XI (H:Hp) (r:Nat) (bs:List Int) (A:Ev.Obj) (q:Int) (j:Nat) (e:Env) (X:Hp):Prop:=
 ∃ (b:Ba) (c:V) (n:Nat),BaG b∧Bmt c b∧X=rh H r bs q [A, .row 0 2 [c]]∧e.get 2= .ptr (Bc H) 0 0 0∧e.get 3= .ptr (Bc H+1) 0 0 0∧e.get 6= .d (.int .i64 n)∧n+j=22∧10≤n∧n - 10≤b.ents.countP (Tp n)
def XE (H:Hp) (r:Nat) (bs:List Int) (A:Ev.Obj) (q:Int) (o:Out) (e:Env) (X:Hp):Prop:=
 o= .exit 2∧∃ (b:Ba) (c:V),BaG b∧Bmt c b∧X=rh H r bs q [A, .row 0 2 [c]]∧e.get 2= .ptr (Bc H) 0 0 0∧e.get 3= .ptr (Bc H+1) 0 0 0
theorem B3o (H:Hp) (r:Nat) (bs:List Int) (A:Ev.Obj) (q:Int) (j:Nat) (e:Env) (X:Hp) (hI:XI H r bs A q j e X):
  Gives (XE H r bs A q) (Bg (Bq (ev R) R.glob (Bc H) Bg Bd4) [2,3,6] ⟨e,X⟩):=by
 refine Bb3 (F:=Bq (ev R) R.glob (Bc H) Bg Bd4) (lv:=[2,3,6]) (XI H r bs A q) (XE H r bs A q) ?_ j e X hI
 show ∀n e X,XI H r bs A q n e X→Gives (Yh (Nxt (XI H r bs A q) n) (XE H r bs A q)) _
 rintro j e X ⟨b,c,n,hg,hc,rfl,g2,g3,g6,hn,h10,hcnt⟩
 have hle:=List.countP_le_length (p:=Tp n) (l:=b.ents)
 by_cases hl:b.ents.length<12
 ·have hj:0<j:=by omega
  have hl': (b.ents.length:Int)<12:=by omega
  have p1:=Bxw (n:Int) (by omega)
  have he:EnQ ⟨xk n,0,1,[],[],[],[]⟩:=Bbc (Bv9 n h10 (by omega))
  have p2:=B69 b ⟨xk n,0,1,[],[],[],[]⟩ hg.sm he.sm he.fit
  have hpg:=Bnv hg ⟨xk n,0,1,[],[],[],[]⟩
  have hpm:=Btg n h10 (by omega) hl
  have dl:=he.key
  dsimp only at dl
  have sr:1+(Qp n).length≤Kl:=by unfold xk at dl;rw[Cdc] at dl;unfold Kl;omega
  have w:IntKind.i64.wrap ((n:Int)+1)=(n:Int)+1:=IntWalk.i64_in _ (by omega)
  unfold xk at p2 hpg hpm
  generalize P5 b ⟨120::Qp n,0,1,[],[],[],[]⟩=P at*
  obtain⟨b1,ok⟩:=P
  dsimp only at*
  rcases hc with rfl| ⟨rfl,hz⟩
  ·simp(maxSteps:=1000000) [Ci,D8,Gd,F8,Fj,Gf,Fp,Fq,Dv,Gc,Fh,Jw,-Cda,-Cdb,Bd4,g2,g3,g6,hl',hl,p1,p2,sr,w]
   exact⟨j - 1,by omega,b1,_,n+1,hpg, .inl rfl,rfl,rfl,rfl,rfl,by omega,by omega,by omega⟩
  ·obtain⟨now,ents⟩:=b
   dsimp only at hz
   subst hz
   simp(maxSteps:=1000000) [Ci,D8,Gd,F8,Fj,Gf,Fp,Fq,Dv,Gc,Fh,Jw,-Cda,-Cdb,Bd4,g2,g3,g6,p1,p2,sr,w,Gj]
   exact⟨j - 1,by omega,b1,_,n+1,hpg, .inl rfl,rfl,rfl,rfl,rfl,by omega,by omega,by omega⟩
 ·have hl': ¬ (b.ents.length:Int)<12:=by omega
  rcases hc with rfl| ⟨rfl,hz⟩
  ·simp(maxSteps:=1000000) [Ci,D8,Gd,F8,Fj,Gf,Fp,Fq,Dv,Gc,Fh,Jw,-Cda,-Cdb,Bd4,g2,g3,g6,hl',hl]
   exact⟨rfl,b,_,hg, .inl rfl,rfl,rfl,rfl⟩
  ·rw[hz] at hl
   simp at hl
theorem B8b (H:Hp) (r:Nat) (bs:List Int) (p:Int) (h:Cc H r=some (rd bs p)) (hb:Dl bs) (hp:0≤p) (hp2:p≤10000000):
  ∃ (b:Ba) (q:Int),ev R 42 [.ptr r 0 0 0] H=some (.d (Df b),Bw H r (rd bs q))∧BaG b∧p≤q∧q≤p+600:=by
 have hr:=Fu h
 have hH:=Btv H r bs h
 have o1:=fun l=>Blz (H:=H) (l:=l) (r:=r) (bs:=bs) (q:=p) [0,0,10,1000000] hr hb hp (by omega) (by simp) (by simp)
 have om:=Bcc bs p [0,0,10,1000000] hb hp (by omega) (by simp)
 generalize Bh7 bs p [0,0,10,1000000]=now at*
 simp only[Bst,Cdd,Cde] at o1
 have hnow:0≤now∧now≤1000000:=by
  simp only[Cdj,Cdp,or_false] at om
  omega
 have p14:=fun l=>Mo (H:=H) (l:=l) (r:=r) (bs:=bs) (q:=p+1) 14 hr hb (by omega) (by omega)
 obtain⟨k0,k1⟩:=Jg bs (p+1) 14 hb (by omega) (by omega)
 have k1:=k1 (by omega)
 generalize Dg bs (p+1) 14=k at*
 obtain⟨k,rfl⟩:=Int.eq_ofNat_of_zero_le k0
 obtain⟨o,e',X',he,rfl,b,c,q,hg,hc,rfl,g0,g2,g3,q1,q2⟩:=(B8k H r bs (.row 0 2 [.agg [.d (.int .i64 0), .nils 7]]) (p+1+1) hr hb (by omega) (by omega) k
  [(0, .ptr r 0 0 0),(2, .ptr (Bc H) 0 0 0),(3, .ptr (Bc H+1) 0 0 0),(4, .d (.int .i64 k))] (rh H r bs (p+1+1) [.row 0 2 [.agg [.d (.int .i64 0), .nils 7]], .row 0 2 [.agg [.d (.int .i64 now), .nils 7]]])
  ⟨⟨now,[]⟩,_,p+1+1,⟨by simp,by simp,by dsimp only;omega⟩, .inr ⟨rfl,rfl⟩,rfl,rfl,rfl,rfl,rfl,by omega,by omega,by omega⟩).out
 have p30:=fun l=>Mo (H:=H) (l:=l) (r:=r) (bs:=bs) (q:=q) 30 hr hb (by omega) (by omega)
 by_cases f:Dg bs q 30=0
 ·obtain⟨o2,e2,X2,he2,rfl,b2,c2,hg2,hc2,rfl,m2,m3⟩:=(B3o H r bs (.row 0 2 [.agg [.d (.int .i64 0), .nils 7]]) (q+1) 12
   [(2, .ptr (Bc H) 0 0 0),(3, .ptr (Bc H+1) 0 0 0),(6, .d (.int .i64 10))] (rh H r bs (q+1) [.row 0 2 [.agg [.d (.int .i64 0), .nils 7]], .row 0 2 [c]])
   ⟨b,c,10,hg,hc,rfl,rfl,rfl,rfl,by omega,by omega,by omega⟩).out
  refine⟨b2,q+1, ?_,hg2,by omega,by omega⟩
  conv=>lhs;rw[hH]
  refine Bh (fn:=f42) rfl rfl ?_
  rcases hc2 with rfl| ⟨rfl,hz⟩
  ·simp(maxSteps:=1000000) [Ci,D8,Gd,F8,Fj,Gf,Fp,Fq,Dv,Gc,Fh,Jw,-Cda,-Cdb,f42,o1,p14,he,g0,g2,g3,p30,f,he2,m2,m3]
  ·obtain⟨now2,ents⟩:=b2
   dsimp only at hz
   subst hz
   simp(maxSteps:=1000000) [Ci,D8,Gd,F8,Fj,Gf,Fp,Fq,Dv,Gc,Fh,Jw,-Cda,-Cdb,f42,o1,p14,he,g0,g2,g3,p30,f,he2,m2,m3,Gj]
 ·refine⟨b,q+1, ?_,hg,by omega,by omega⟩
  conv=>lhs;rw[hH]
  refine Bh (fn:=f42) rfl rfl ?_
  rcases hc with rfl| ⟨rfl,hz⟩
  ·simp(maxSteps:=1000000) [Ci,D8,Gd,F8,Fj,Gf,Fp,Fq,Dv,Gc,Fh,Jw,-Cda,-Cdb,f42,o1,p14,he,g0,g2,g3,p30,f]
  ·obtain⟨now2,ents⟩:=b
   dsimp only at hz
   subst hz
   simp(maxSteps:=1000000) [Ci,D8,Gd,F8,Fj,Gf,Fp,Fq,Dv,Gc,Fh,Jw,-Cda,-Cdb,f42,o1,p14,he,g0,g2,g3,p30,f,Gj]
structure BaL (b:Ba):Prop where
 len:b.ents.length≤13
 each: ∀e∈b.ents,EnQ e
 now: -1≤b.now∧b.now≤2000000
theorem BaL.sm {b:Ba} (h:BaL b):BaSm b:=⟨by have:=h.len;omega,fun e he=> (h.each e he).sm⟩
theorem BaL.fit {b:Ba} (h:BaL b):BaFit b:=⟨by have:=h.now;exact⟨by omega,by omega⟩,by have:=h.len;omega,fun e he=> (h.each e he).fit⟩
theorem BaG.l {b:Ba} (h:BaG b):BaL b:=⟨by have:=h.len;omega,fun e he=>Bbc (h.each e he),by have:=h.now;omega⟩
theorem Bok (n:Int) (e:En):D.agg [.int .i64 n, .vals 7 [Jn e]]=Df ⟨n,[e]⟩:=rfl
theorem Bsc (e:En) (z:Int):D.agg [.str e.key, .int .i64 e.till, .int .i64 z, .str e.text, .vals 1 (e.list.map D.str),De e.scores,D7 e.fields]=Jn ⟨e.key,e.till,z,e.text,e.list,e.scores,e.fields⟩:=rfl
def B2p (H:Hp) (r:Nat) (bs:List Int) (p:Int):Prop:=
 ∃ (b:Ba) (q:Int),ev R 21 [.ptr r 0 0 0] H=some (.d (Df b),Bw H r (rd bs q))∧BaL b∧p≤q∧q≤p+700
theorem B8a (H:Hp) (r:Nat) (bs:List Int) (p:Int) (h:Cc H r=some (rd bs p)) (hb:Dl bs) (hp:0≤p) (hp2:p≤10000000):B2p H r bs p:=by
 have hr:=Fu h
 have hH:=Btv H r bs h
 have bl: ∀l,∃ (b:Ba) (q:Int),ev R 42 [.ptr r 0 0 0] (rh H r bs p l)=some (.d (Df b),Bw (rh H r bs p l) r (rd bs q))∧BaG b∧p≤q∧q≤p+600:=fun l=>B8b _ r bs p (Bi2 H l r bs p hr) hb hp hp2
 obtain⟨⟨now,es⟩,q,e0,hg,q1,q2⟩:=bl [.row 0 2 [.agg [.d (.int .i64 0), .nils 7]]]
 rw[Bgn H _ r bs p hr] at e0
 clear bl
 have p16:=fun l=>Mo (H:=H) (l:=l) (r:=r) (bs:=bs) (q:=q) 16 hr hb (by omega) (by omega)
 have hL:=hg.l
 by_cases hes:es=[]
 ·subst hes
  have p0: ∀X,ev R 41 [.d (Df ⟨now,[]⟩)] X=some (.agg [.d (.int .i64 now), .nils 7],X):=fun X=>Box ⟨now,[]⟩ hg.sm.len hg.sm.each X
  by_cases c0:Dg bs q 16=0
  ·have o1:=fun l=>Blz (H:=H) (l:=l) (r:=r) (bs:=bs) (q:=q+1) [-1,1000001,50] hr hb (by omega) (by omega) (by simp) (by simp)
   have om:=Bcc bs (q+1) [-1,1000001,50] hb (by omega) (by omega) (by simp)
   generalize Bh7 bs (q+1) [-1,1000001,50]=z at*
   simp only[Bst,Cdd,Cde] at o1
   refine⟨⟨z,[]⟩,q+1+1, ?_,⟨by simp,by simp,by simp only[Cdj,Cdp,or_false] at om;dsimp only;omega⟩,by omega,by omega⟩
   conv=>lhs;rw[hH]
   refine Bh (fn:=f21) rfl rfl ?_
   simp(maxSteps:=1000000) [Ci,D8,Gd,F8,Fj,Gf,Fp,Fq,Dv,Gc,Fh,Jw,-Cda,-Cdb,f21,e0,p0,p16,c0,o1,Gj]
  by_cases c1:Dg bs q 16=1
  ·refine⟨⟨now,[]⟩,q+1, ?_,hL,by omega,by omega⟩
   conv=>lhs;rw[hH]
   refine Bh (fn:=f21) rfl rfl ?_
   simp(maxSteps:=1000000) [Ci,D8,Gd,F8,Fj,Gf,Fp,Fq,Dv,Gc,Fh,Jw,-Cda,-Cdb,f21,e0,p0,p16,c1,Gj]
  by_cases c2:Dg bs q 16=2
  ·have o1:=fun l=>B0c (H:=H) (l:=l) (r:=r) (bs:=bs) (q:=q+1) [[],[122,122],[97]] hr hb (by omega) (by omega) (by simp)
   have om:=Bau bs (q+1) [[],[122,122],[97]] 40 (by simp)
   generalize ofV bs (q+1) [[],[122,122],[97]]=z at*
   simp only[Bf,Cdd,Cde] at o1
   have eq:EnQ ⟨z,0,1,[],[],[],[]⟩:=⟨by dsimp only;omega,by simp,by simp,by simp,by simp,by simp,by simp,by simp,by simp,by simp⟩
   refine⟨⟨now,[⟨z,0,1,[],[],[],[]⟩]⟩,q+1+1, ?_,⟨by simp,by simpa using eq,hL.now⟩,by omega,by omega⟩
   conv=>lhs;rw[hH]
   refine Bh (fn:=f21) rfl rfl ?_
   have rm: (120:Nat)≤Ct:=by unfold Ct;omega
   simp(maxSteps:=1000000) [Ci,D8,Gd,F8,Fj,Gf,Fp,Fq,Dv,Gc,Fh,Jw,-Cda,-Cdb,f21,e0,p0,p16,c2,o1,Bok,rm]
  ·refine⟨⟨now,[]⟩,q+1, ?_,hL,by omega,by omega⟩
   conv=>lhs;rw[hH]
   refine Bh (fn:=f21) rfl rfl ?_
   simp(maxSteps:=1000000) [Ci,D8,Gd,F8,Fj,Gf,Fp,Fq,Dv,Gc,Fh,Jw,-Cda,-Cdb,f21,e0,p0,p16,eq_false c0,eq_false c1,eq_false c2,Gj]
 ·have p0: ∀X,ev R 41 [.d (Df ⟨now,es⟩)] X=some (.agg [.d (.int .i64 now), .slc (Bc X) 0 0 es.length],ap X [.row 0 7 ((es.map Jn).map V.d)]):=fun X=>by
   rw[Box ⟨now,es⟩ hg.sm.len hg.sm.each X]
   cases es with
   |nil=>exact absurd rfl hes
   |cons z r=>rfl
  have hl:=hg.len
  dsimp only at hl
  have l0:0<es.length:=List.length_pos_iff.2 hes
  have l1: (0:Int)< (es.length:Int):=by omega
  have ft:List.take es.length ((es.map Jn).map V.d)=(es.map Jn).map V.d:=Cdg (by simp)
  by_cases c0:Dg bs q 16=0
  ·have o1:=fun l=>Blz (H:=H) (l:=l) (r:=r) (bs:=bs) (q:=q+1) [-1,1000001,50] hr hb (by omega) (by omega) (by simp) (by simp)
   have om:=Bcc bs (q+1) [-1,1000001,50] hb (by omega) (by omega) (by simp)
   generalize Bh7 bs (q+1) [-1,1000001,50]=z at*
   simp only[Bst,Cdd,Cde] at o1
   refine⟨⟨z,es⟩,q+1+1, ?_,⟨hL.len,hL.each,by simp only[Cdj,Cdp,or_false] at om;dsimp only;omega⟩,by omega,by omega⟩
   conv=>lhs;rw[hH]
   refine Bh (fn:=f21) rfl rfl ?_
   simp(maxSteps:=1000000) [Ci,D8,Gd,F8,Fj,Gf,Fp,Fq,Dv,Gc,Fh,Jw,-Cda,-Cdb,f21,e0,p0,p16,c0,o1,ft]
  by_cases c1:Dg bs q 16=1
  ·have o1:=fun l=>Mo (H:=H) (l:=l) (r:=r) (bs:=bs) (q:=q+1) es.length hr hb (by omega) (by omega)
   have o2:=fun l=>Mo (H:=H) (l:=l) (r:=r) (bs:=bs) (q:=q+1+1) 7 hr hb (by omega) (by omega)
   obtain⟨k0,k1⟩:=Jg bs (q+1) es.length hb (by omega) (by omega)
   obtain⟨k2,k3⟩:=Jg bs (q+1+1) 7 hb (by omega) (by omega)
   have k1:=k1 (by omega)
   have k3:=k3 (by omega)
   generalize Dg bs (q+1) es.length=i at*
   generalize Dg bs (q+1+1) 7=kd at*
   obtain⟨i,rfl⟩:=Int.eq_ofNat_of_zero_le k0
   have hi:i<es.length:=by omega
   have hm:es[i]∈es:=Cdr hi
   have hq:=hL.each _ hm
   obtain⟨E,g⟩: ∃E,es[i]=E:=⟨_,rfl⟩
   rw[g] at hm hq
   have sf:=Bc2 Jn es i ⟨E.key,E.till,kd,E.text,E.list,E.scores,E.fields⟩
   have sl: (es.set i ⟨E.key,E.till,kd,E.text,E.list,E.scores,E.fields⟩).length=es.length:=List.length_set
   have ee:EnQ ⟨E.key,E.till,kd,E.text,E.list,E.scores,E.fields⟩:=⟨hq.key,hq.text,hq.list,hq.lists,hq.scores,hq.scoress,hq.fields,hq.fieldss,hq.till,by dsimp only;omega⟩
   have em: ∀e∈es.set i ⟨E.key,E.till,kd,E.text,E.list,E.scores,E.fields⟩,EnQ e:=fun e he=>by
    rcases List.mem_or_eq_of_mem_set he with h1|h1
    ·exact hL.each e h1
    ·rw[h1];exact ee
   generalize es.set i ⟨E.key,E.till,kd,E.text,E.list,E.scores,E.fields⟩=ES at*
   have ft2:List.take es.length ((ES.map Jn).map V.d)=(ES.map Jn).map V.d:=Cdg (by simp[sl])
   refine⟨⟨now,ES⟩,q+1+1+1, ?_,⟨by dsimp only;omega,em,hL.now⟩,by omega,by omega⟩
   conv=>lhs;rw[hH]
   refine Bh (fn:=f21) rfl rfl ?_
   simp(maxSteps:=1000000) [Ci,D8,Gd,F8,Fj,Gf,Fp,Fq,Dv,Gc,Fh,Jw,-Cda,-Cdb,f21,e0,p0,p16,c1,o1,o2,l0,l1,hi,k1,g,sf,sl,ft2,Bsc]
  by_cases c2:Dg bs q 16=2
  ·have o1:=fun l=>B0c (H:=H) (l:=l) (r:=r) (bs:=bs) (q:=q+1) [[],[122,122],[97]] hr hb (by omega) (by omega) (by simp)
   have om:=Bau bs (q+1) [[],[122,122],[97]] 40 (by simp)
   generalize ofV bs (q+1) [[],[122,122],[97]]=z at*
   simp only[Bf,Cdd,Cde] at o1
   have eq:EnQ ⟨z,0,1,[],[],[],[]⟩:=⟨by dsimp only;omega,by simp,by simp,by simp,by simp,by simp,by simp,by simp,by simp,by simp⟩
   obtain⟨ES,hES⟩: ∃ES,ES=es++[(⟨z,0,1,[],[],[],[]⟩:En)]:=⟨_,rfl⟩
   have sf:List.map V.d (List.map Jn es)++[V.d (Jn ⟨z,0,1,[],[],[],[]⟩)]=List.map V.d (List.map Jn ES):=by rw[hES];simp
   have sl:ES.length=es.length+1:=by rw[hES];simp
   have em: ∀e∈ES,EnQ e:=fun e he=>by
    rw[hES] at he
    simp only[List.mem_append,List.mem_singleton] at he
    rcases he with h1|h1
    ·exact hL.each e h1
    ·rw[h1];exact eq
   refine⟨⟨now,ES⟩,q+1+1, ?_,⟨by dsimp only;omega,em,hL.now⟩,by omega,by omega⟩
   conv=>lhs;rw[hH]
   refine Bh (fn:=f21) rfl rfl ?_
   have rm: (es.length+1)*120≤Ct:=by unfold Ct;omega
   have ft2:List.take (es.length+1) ((ES.map Jn).map V.d)=(ES.map Jn).map V.d:=Cdg (by simp[sl])
   simp(maxSteps:=1000000) [Ci,D8,Gd,F8,Fj,Gf,Fp,Fq,Dv,Gc,Fh,Jw,-Cda,-Cdb,f21,e0,p0,p16,c2,o1,rm,sf,sl,ft2]
  ·refine⟨⟨now,es⟩,q+1, ?_,hL,by omega,by omega⟩
   conv=>lhs;rw[hH]
   refine Bh (fn:=f21) rfl rfl ?_
   simp(maxSteps:=1000000) [Ci,D8,Gd,F8,Fj,Gf,Fp,Fq,Dv,Gc,Fh,Jw,-Cda,-Cdb,f21,e0,p0,p16,eq_false c0,eq_false c1,eq_false c2,ft]
theorem Bkq {e:En} (h:Sm e=true):Gl e=false:=by
 unfold Sm at h
 simp only[Cdv,decide_eq_true_eq] at h
 obtain⟨⟨h1,h2⟩,h3⟩:=h
 have a1:e.list=[]:=Cdk (by omega)
 have a2:e.scores=[]:=Cdk (by omega)
 have a3:e.fields=[]:=Cdk (by omega)
 unfold Gl Mc
 rw[if_neg h1,a1,a2,a3,h2]
 simp
theorem Bpx {b:Ba} (h:BaO b) {t:Br} (hk:G6 b.ents t=true): (Bz b t).key=t∧Bz b t∈b.ents∧P5 (Ga b t) (Bz b t)=(b,true):=by
 have hl:=Ls hk
 have hm:b.ents.getD (Jt b.ents t) default∈b.ents:=Jc hl
 have hkey: (b.ents.getD (Jt b.ents t) default).key=t:=by
  have hk2:=hk
  unfold G6 at hk2
  rw[Cdv] at hk2
  exact of_decide_eq_true hk2.2
 have hg:Bz b t=b.ents.getD (Jt b.ents t) default:=by unfold Bz;rw[if_pos hk]
 have hdl:b.ents.drop (Jt b.ents t)=b.ents.getD (Jt b.ents t) default::b.ents.drop (Jt b.ents t+1):=by
  rw[List.drop_eq_getElem_cons hl]
  simp[Cda,hl]
 rw[hg]
 obtain⟨he,hfr⟩:=h.each _ hm
 generalize b.ents.getD (Jt b.ents t) default=e at*
 refine⟨hkey,hm, ?_⟩
 have hn:=Bti h t
 have hdd:Ga (Ga b t) e.key=Ga b t:=by
  show(if G6 (Ga b t).ents e.key=true then _ else Ga b t)=Ga b t
  rw[hkey,hn];rfl
 have Bc: (Ga b t).ents.length+1=b.ents.length:=by
  unfold Ga
  rw[if_pos hk]
  simp only[Ua _ _ hl];omega
 have hemp:Sm e=false:=by
  cases hq:Sm e with
  |false=>rfl
  |true=>exact absurd he (by rw[Bkq hq];simp)
 have hmay:Y3 (Ga b t) e=true:=by
  unfold Y3
  rw[he,hdd,X4]
  have:=h.len
  have h3: (Ga b t).ents.length<12:=by omega
  rcases hfr with h4|h4
  ·simp[h3,h4]
  ·have: ¬e.till≤b.now:=by omega
   simp[h3,this]
 unfold P5
 rw[hemp,hmay,hdd]
 simp only[Bool.false_eq_true,if_false,if_true,Prod.mk.injEq,and_true]
 have hp:=Bei h.asc t
 have hk2:Jt (Ga b t).ents e.key=Jt b.ents t:=by
  rw[hkey]
  unfold Ga
  rw[if_pos hk]
  have ha:=h.asc.sublist (List.drop_sublist (Jt b.ents t) b.ents)
  rw[hdl] at ha
  show(List.takeWhile _ (b.ents.take (Jt b.ents t)++b.ents.drop (Jt b.ents t+1))).length=_
  rw[List.takeWhile_append_of_pos (fun x hx=>hp.1 x hx),List.length_append,Cdn]
  have:List.takeWhile (fun e:En=>Op.bytesLess e.key t) (b.ents.drop (Jt b.ents t+1))=[]:=by
   cases hd:b.ents.drop (Jt b.ents t+1) with
   |nil=>rfl
   |cons y r=>
    have hy:=List.rel_of_pairwise_cons ha (show y∈b.ents.drop (Jt b.ents t+1) by rw[hd];simp)
    rw[List.takeWhile_cons]
    cases hq:Op.bytesLess y.key t with
    |false=>rfl
    |true=>have:=Rt hy hq;rw[hkey,Mv] at this;simp at this
  rw[this,Cdf];omega
 rw[hk2,X4]
 unfold Ga
 rw[if_pos hk]
 simp only[Ka,Jr]
 have hlt: (b.ents.take (Jt b.ents t)).length=Jt b.ents t:=by rw[Cdn];omega
 have l1: (b.ents.take (Jt b.ents t)++b.ents.drop (Jt b.ents t+1)).take (Jt b.ents t)=b.ents.take (Jt b.ents t):=by
  rw[List.take_append_of_le_length (by omega),Cdg (by omega)]
 have l2: (b.ents.take (Jt b.ents t)++b.ents.drop (Jt b.ents t+1)).drop (Jt b.ents t)=b.ents.drop (Jt b.ents t+1):=by
  rw[List.drop_append_of_le_length (by omega),List.drop_of_length_le (by omega),List.nil_append]
 rw[l1,l2,←hdl,List.take_append_drop]
def Uw:List Br:=[[107],[108],[115],[122],[104],[107,50],[108]]
theorem Bxp (bs:List Int) (q:Int) (ns:List Br) (hb:Dl bs) (h0:0≤q) (h1:q≤1000000000000) (hn:0<ns.length):ofV bs q ns∈ns:=by
 unfold ofV
 have:=Jg bs q ns.length hb h0 h1
 have h2:=this.2 (by omega)
 have hi: (Dg bs q ns.length).toNat<ns.length:=by omega
 rw[Cda,List.getElem?_eq_getElem hi]
 exact Cdr hi
theorem B3x (H:Hp) (r:Nat) (bs:List Int) (q q':Int) {o:Ev.Obj} (h:Cc H r=some o) (hb:Dl bs) (hq:0≤q) (hq2:q≤100000000000) (hq':q'=q+1):
  ∃t:Br,t∈Uw∧ev R 22 [.ptr r 0 0 0] (Bw H r (rd bs q))=some (.d (.str t),Bw H r (rd bs q')):=by
 subst hq'
 have e:=Bw4 (Bw H r (rd bs q)) r bs q Uw (Cn _ (Fu h)) hb hq (by omega) (by simp[Uw])
 rw[Mf] at e
 refine⟨_,Bxp bs q Uw hb hq (by omega) (by simp[Uw]),Bh (fn:=f22) rfl rfl ?_⟩
 generalize ofV bs q Uw=t at*
 have hl:=J5 (Bw H r (rd bs (q+1)))
 rw[Bt] at hl
 have hl2:=Bt H r (rd bs q)
 simp only[Uw,Bf,Cdd,Cde] at e
 simp[Cm,-Cda,-Cdb,f22,e,hl,hl2]
theorem k_7 (H:Hp) (bs:List Int) (h: ∀i,0≤bs.getD i 0∧bs.getD i 0≤255):
  ∃ (b:Ba) (t:Br),ev R 7 [.d (Si bs)] H=some (.tup [.d (Df b), .d (.str t)],H)∧BaL b∧t∈Uw:=by
 have ho:=Bpg bs h
 have o1:=fun H=>B79 H bs
 obtain⟨b,q,e1,hL,q1,q2⟩:=B8a (ap H [.row 0 2 [.agg [.d (.int .i64 0), .nils 7]],rd (L8 bs) 0]) (Bc H+1) (L8 bs) 0 (by rw[Qa];rfl) ho (by omega) (by omega)
 rw[Q7] at e1
 obtain⟨t,ht,e2⟩:=B3x (ap H [.row 0 2 [.agg [.d (.int .i64 0), .nils 7]],rd (L8 bs) q]) (Bc H+1) (L8 bs) q (q+1) (o:=rd (L8 bs) q) (by rw[Qa];rfl) ho (by omega) (by omega) rfl
 rw[Q7,Q7] at e2
 simp only[Bw] at e1 e2
 refine⟨b,t, ?_,hL,ht⟩
 refine Bh (fn:=f7) rfl rfl ?_
 simp(maxSteps:=1000000) [Ci,-Cda,-Cdb,f7,o1,e1,e2]
theorem Bxl {t:Br} (h:t∈Uw):1≤t.length∧t.length≤2:=by
 simp only[Uw,Cdj,Cdp,or_false] at h
 rcases h with rfl|rfl|rfl|rfl|rfl|rfl|rfl<;>decide
end Go.Proofs.YtpajcoanfkeibaaGreatDoor.Code

/- Lemmas (several texts in one). -/
import Derived.Test.YtjdmiodinhlchaaGreatMBasePut7
import Derived.Test.YtjdmiodinhlchaaGreatMBasePut20
import Derived.Test.YtjdmiodinhlchaaGreatMBasePut21
import Derived.Test.YtjdmiodinhlchaaGreatMBasePut22
import Derived.Test.YtjdmiodinhlchaaGreatMBasePut25
import Derived.Test.YtjdmiodinhlchaaGreatMBasePut26
import Derived.Test.YtjdmiodinhlchaaGreatMBasePut31
set_option maxRecDepth 100000
set_option maxHeartbeats 4000000
set_option linter.unusedSimpArgs false
set_option linter.unusedVariables false
namespace Go.Proofs.YtjdmiodinhlchaaGreat.Code
open Go Go.Ev Go.Proofs
def Blr (c:V) (b:Ba):Prop:=c= .d (Dx b)∨(c= .agg [.d (.int .i64 b.now), .nils 7]∧b.ents=[])
theorem Bv6 {b:Ba} (hb:BaG b) (ks:List Bp):BaG (Bbz b ks).1:=by
 unfold Bbz
 have key: ∀ (n i:Nat) (s:Ba×Nat),BaG s.1→BaG ((List.range' i n).foldl (fun s i=>Wl ks i s) s).1:=by
  intro n
  induction n with
  |zero=>intro i s h;exact h
  |succ n ih=>intro i s h;rw[List.range'_succ,List.foldl_cons];exact ih _ _ (Bnp ks i s h)
 exact key _ _ _ hb
theorem Bos (b:Ba) (ks:List Bp): (Bkr b ks).1=b:=by
 unfold Bkr
 have key: ∀ (n i:Nat) (s:Ba×Nat),((List.range' i n).foldl (fun s i=>Ben ks i s) s).1=s.1:=by
  intro n
  induction n with
  |zero=>intro i s;rfl
  |succ n ih=>intro i s;rw[List.range'_succ,List.foldl_cons,ih];rfl
 exact key _ _ _
theorem J5 {b:Ba} {c:Prop} [Decidable c] {x y:Ba×Re} (hx:BaG x.1) (hy:BaG y.1):BaG (if c then x else y).1:=by split<;>assumption
theorem Bhp {b:Ba} (hb:BaG b) (k:Bp) (n:Int):BaG (Yj b k n).1:=by
 unfold Yj
 exact J5 (b:=b) hb (J5 (b:=b) (Sk hb k) (Gz hb _ _))
theorem Bzt {b:Ba} (hb:BaG b) (w:Bp) (r:List Bp):BaG (Dq b w r).1:=by
 unfold Dq
 repeat' (with_reducible refine J5 (b:=b) ?_ ?_)
 all_goals first
  |exact hb
  | (unfold Bbx;exact J5 (b:=b) (Gz hb _ _) hb)
  | (unfold Bou;exact Gz hb _ _)
  | (unfold Tp;exact J5 (b:=b) hb (Gz hb _ _))
  | (unfold Nk;exact J5 (b:=b) hb hb)
  | (unfold Sn;exact J5 (b:=b) (Gz hb _ _) hb)
  | (unfold Bb1;exact J5 (b:=b) (Gz hb _ _) hb)
  | (unfold Tu;exact J5 (b:=b) hb hb)
  | (unfold Yh;exact J5 (b:=b) (Gz hb _ _) hb)
  | (unfold Bdw;exact J5 (b:=b) (J5 (b:=b) (Gz hb _ _) hb) hb)
  | (unfold Bdv;exact J5 (b:=b) (Gz hb _ _) hb)
  | (unfold Bdx;exact J5 (b:=b) (Gz hb _ _) hb)
  | (unfold Bdy;exact Gz hb _ _)
  | (unfold Bdz;exact J5 (b:=b) (J5 (b:=b) (Gz hb _ _) hb) hb)
  | (unfold Qo;exact J5 (b:=b) (J5 (b:=b) (Gz hb _ _) hb) hb)
  | (unfold Tw;exact J5 (b:=b) hb hb)
  | (unfold J7;exact J5 (b:=b) hb hb)
  | (unfold Bd0;exact Gz hb _ _)
  | (unfold Bdu;exact J5 (b:=b) (Gz hb _ _) hb)
  | (unfold Bdt;exact Gz hb _ _)
  | (unfold Ql;exact J5 (b:=b) (J5 (b:=b) (Gz hb _ _) hb) hb)
  | (unfold Qm;exact Gz hb _ _)
  | (unfold Tt;exact J5 (b:=b) (Bhp hb _ _) hb)
  | (unfold Nj;exact J5 (b:=b) (Bhp hb _ _) hb)
  | (unfold Tv;exact J5 (b:=b) hb (Gz (Sk hb _) _ _))
  | (unfold Boq;exact Bv6 hb _)
  | (unfold Tq;dsimp only;rw[Bos];exact hb)
  | (unfold Yf;exact⟨by simp,by simp,hb.now⟩)
theorem B39 {b:Ba} (hb:BaG b) (args:List Bp):BaG (rDo b args).1:=by
 unfold rDo
 exact J5 (b:=b) (Bzt hb _ _) hb
def Blp (H:Hp) (r:Nat) (bs:List Int) (A:Ev.Obj) (q0:Int) (k:Nat) (e:Env) (X:Hp):Prop:=
 ∃ (b:Ba) (c:V) (q:Int),BaG b∧Blr c b∧X=rh H r bs q [A, .row 0 2 [c]]∧e.get 0= .ptr r 0 0 0∧e.get 2= .ptr (Bc H) 0 0 0∧e.get 3= .ptr (Bc H+1) 0 0 0∧e.get 4= .d (.int .i64 k)∧q0≤q∧q≤q0+30*(14 - k)∧k≤14
def Bp3 (H:Hp) (r:Nat) (bs:List Int) (A:Ev.Obj) (q0:Int) (o:Out) (e:Env) (X:Hp):Prop:=
 o= .exit 0∧∃ (b:Ba) (c:V) (q:Int),BaG b∧Blr c b∧X=rh H r bs q [A, .row 0 2 [c]]∧e.get 0= .ptr r 0 0 0∧e.get 2= .ptr (Bc H) 0 0 0∧e.get 3= .ptr (Bc H+1) 0 0 0∧q0≤q∧q≤q0+500
theorem Bob {ts:List Bp} (h1:1≤ts.length) (h8:ts.length≤8) (hs: ∀x∈ts,x.length≤40):Nz ts=true:=(Ux ts).2 ⟨hs,h1,h8⟩
theorem B5q (H:Hp) (r:Nat) (bs:List Int) (A:Ev.Obj) (q0:Int) (hr:r<Bc H) (hb:Cy bs) (h0:0≤q0) (h1:q0≤100000000) (k:Nat) (e:Env) (X:Hp) (hI:Blp H r bs A q0 k e X):
  Gives (Bp3 H r bs A q0) (Bg (Bq (ev R) R.glob (Bc H) Bg Nu) [0,2,3,4] ⟨e,X⟩):=by
 refine Le (F:=Bq (ev R) R.glob (Bc H) Bg Nu) (lv:=[0,2,3,4]) (Blp H r bs A q0) (Bp3 H r bs A q0) ?_ k e X hI
 show ∀n e X,Blp H r bs A q0 n e X→Gives (Ru (Nxt (Blp H r bs A q0) n) (Bp3 H r bs A q0)) _
 rintro n e X ⟨b,c,q,hg,hc,rfl,g0,g2,g3,g4,hq0,hq1,hk⟩
 cases n with
 |zero=>
  simp(maxSteps:=1000000) [Cm,Cc,C8,Cx,Ci,C9,Cj,Ck,Bw,Da,Ch,D7,-List.getD_eq_getElem?_getD,-List.map_map,Nu,g0,g2,g3,g4]
  exact⟨rfl,b,c,q,hg,hc,rfl,rfl,rfl,rfl,hq0,by omega⟩
 |succ n=>
  obtain⟨ts,q1,ho,a1,a2,t1,t8,ts40⟩:=Bsb (l:=[A, .row 0 2 [c]]) hr hb (show 0≤q by omega) (show q≤1000000000 by omega)
  simp only[List.length_cons,List.length_nil,List.cons_append,List.nil_append] at ho
  have fz:=fun c'=>Bsc H [A, .row 0 2 [c'], .row 0 1 ((ts.map D.str).map V.d)] r bs q1 2 2 0 1 ts.length (ts.map D.str) (by omega) rfl (by simp)
  have hd:=B79 b ts hg (Bob t1 t8 ts40)
  have hdg:=B39 hg ts
  have g:=Dv ts 0 (by omega)
  have c0: (0:Int)< (ts.length:Int):=by omega
  have c1:0<ts.length:=by omega
  have cn: (0:Int)< (n:Int)+1:=by omega
  have w:IntKind.i64.wrap ((n:Int)+1 - 1)=(n:Int):=by rw[IntWalk.i64_in _ (by omega)];omega
  have w':IntKind.i64.wrap (n:Int)=(n:Int):=IntWalk.i64_in _ (by omega)
  generalize rDo b ts=P at*
  obtain⟨b1,re⟩:=P
  dsimp only[Bl] at hd hdg
  have pk4:=fun l=>Gq (H:=H) (l:=l) (r:=r) (bs:=bs) (q:=q1) 4 hr hb (by omega) (by omega)
  have pk6:=fun l=>Gq (H:=H) (l:=l) (r:=r) (bs:=bs) (q:=q1) 6 hr hb (by omega) (by omega)
  have pk61:=fun l=>Gq (H:=H) (l:=l) (r:=r) (bs:=bs) (q:=q1+1) 6 hr hb (by omega) (by omega)
  have pk46:=fun l=>Gq (H:=H) (l:=l) (r:=r) (bs:=bs) (q:=q1+1) 4 hr hb (by omega) (by omega)
  have pk461:=fun l=>Gq (H:=H) (l:=l) (r:=r) (bs:=bs) (q:=q1+1+1) 4 hr hb (by omega) (by omega)
  obtain⟨k40,_⟩:=Gd bs (q1+1) 4 hb (by omega) (by omega)
  obtain⟨k41,k42⟩:=Gd bs (q1+1) 4 hb (by omega) (by omega)
  obtain⟨k43,k44⟩:=Gd bs (q1+1+1) 4 hb (by omega) (by omega)
  have k42:=k42 (by omega)
  have k44:=k44 (by omega)
  have tk: ∀ (B:Ba) (hB:BaG B) (z:Int),0≤z→z<4→Be (ev R) 16 [.d (Dx B), .d (.int .i64 z)]=some (.d (Dx (Xr B z))):=fun B hB z z0 z1=>B7w B z hB.sm hB.fit (by have:=hB.now;omega) (by omega)
  have tkb1:=tk b hg _ k41 k42
  have tkb2:=tk b hg _ k43 k44
  have tkc1:=tk b1 hdg _ k41 k42
  have tkc2:=tk b1 hdg _ k43 k44
  have vb1:=Baa hg (Cr bs (q1+1) 4)
  have vb2:=Baa hg (Cr bs (q1+1+1) 4)
  have vc1:=Baa hdg (Cr bs (q1+1) 4)
  have vc2:=Baa hdg (Cr bs (q1+1+1) 4)
  clear tk k40
  generalize Xr b (Cr bs (q1+1) 4)=B1 at*
  generalize Xr b (Cr bs (q1+1+1) 4)=B2 at*
  generalize Xr b1 (Cr bs (q1+1) 4)=C1 at*
  generalize Xr b1 (Cr bs (q1+1+1) 4)=C2 at*
  by_cases f:ts.getD 0 []=[70,76,85,83,72]
  ·by_cases f4:Cr bs q1 4=0
   ·by_cases f6:Cr bs (q1+1) 6=0
    ·rcases hc with rfl| ⟨rfl,hn⟩
     ·simp(maxSteps:=1000000) [Cm,Cc,C8,Cx,Ci,C9,Cj,Ck,Bw,Da,Ch,D7,-List.getD_eq_getElem?_getD,-List.map_map,Nu,g0,g2,g3,g4,ho,fz,hd,g,c0,c1,cn,w,w',eq_true f,pk4,pk61,pk461,f4,f6,tkc2]
      exact⟨n,by omega,C2,_,q1+1+1+1,vc2, .inl rfl,rfl,rfl,rfl,rfl,rfl,by omega,by omega,by omega⟩
     ·obtain⟨now,ents⟩:=b
      dsimp only at hn
      subst hn
      simp(maxSteps:=1000000) [Cm,Cc,C8,Cx,Ci,C9,Cj,Ck,Bw,Da,Ch,D7,-List.getD_eq_getElem?_getD,-List.map_map,Nu,g0,g2,g3,g4,ho,fz,hd,g,c0,c1,cn,w,w',eq_true f,pk4,pk61,pk461,f4,f6,tkc2,Fx]
      exact⟨n,by omega,C2,_,q1+1+1+1,vc2, .inl rfl,rfl,rfl,rfl,rfl,rfl,by omega,by omega,by omega⟩
    ·rcases hc with rfl| ⟨rfl,hn⟩
     ·simp(maxSteps:=1000000) [Cm,Cc,C8,Cx,Ci,C9,Cj,Ck,Bw,Da,Ch,D7,-List.getD_eq_getElem?_getD,-List.map_map,Nu,g0,g2,g3,g4,ho,fz,hd,g,c0,c1,cn,w,w',eq_true f,pk4,pk61,f4,f6]
      exact⟨n,by omega,b1,_,q1+1+1,hdg, .inl rfl,rfl,rfl,rfl,rfl,rfl,by omega,by omega,by omega⟩
     ·obtain⟨now,ents⟩:=b
      dsimp only at hn
      subst hn
      simp(maxSteps:=1000000) [Cm,Cc,C8,Cx,Ci,C9,Cj,Ck,Bw,Da,Ch,D7,-List.getD_eq_getElem?_getD,-List.map_map,Nu,g0,g2,g3,g4,ho,fz,hd,g,c0,c1,cn,w,w',eq_true f,pk4,pk61,f4,f6,Fx]
      exact⟨n,by omega,b1,_,q1+1+1,hdg, .inl rfl,rfl,rfl,rfl,rfl,rfl,by omega,by omega,by omega⟩
   ·by_cases f6:Cr bs (q1+1) 6=0
    ·rcases hc with rfl| ⟨rfl,hn⟩
     ·simp(maxSteps:=1000000) [Cm,Cc,C8,Cx,Ci,C9,Cj,Ck,Bw,Da,Ch,D7,-List.getD_eq_getElem?_getD,-List.map_map,Nu,g0,g2,g3,g4,ho,fz,g,c0,c1,cn,w,w',eq_true f,pk4,pk61,pk461,f4,f6,tkb2]
      exact⟨n,by omega,B2,_,q1+1+1+1,vb2, .inl rfl,rfl,rfl,rfl,rfl,rfl,by omega,by omega,by omega⟩
     ·obtain⟨now,ents⟩:=b
      dsimp only at hn
      subst hn
      simp(maxSteps:=1000000) [Cm,Cc,C8,Cx,Ci,C9,Cj,Ck,Bw,Da,Ch,D7,-List.getD_eq_getElem?_getD,-List.map_map,Nu,g0,g2,g3,g4,ho,fz,g,c0,c1,cn,w,w',eq_true f,pk4,pk61,pk461,f4,f6,tkb2,Fx]
      exact⟨n,by omega,B2,_,q1+1+1+1,vb2, .inl rfl,rfl,rfl,rfl,rfl,rfl,by omega,by omega,by omega⟩
    ·simp(maxSteps:=1000000) [Cm,Cc,C8,Cx,Ci,C9,Cj,Ck,Bw,Da,Ch,D7,-List.getD_eq_getElem?_getD,-List.map_map,Nu,g0,g2,g3,g4,ho,fz,g,c0,c1,cn,w,w',eq_true f,pk4,pk61,f4,f6]
     exact⟨n,by omega,b,c,q1+1+1,hg,hc,rfl,rfl,rfl,rfl,rfl,by omega,by omega,by omega⟩
  ·by_cases f6:Cr bs q1 6=0
   ·rcases hc with rfl| ⟨rfl,hn⟩
    ·simp(maxSteps:=1000000) [Cm,Cc,C8,Cx,Ci,C9,Cj,Ck,Bw,Da,Ch,D7,-List.getD_eq_getElem?_getD,-List.map_map,Nu,g0,g2,g3,g4,ho,fz,hd,g,c0,c1,cn,w,w',eq_false f,pk6,pk46,f6,tkc1]
     exact⟨n,by omega,C1,_,q1+1+1,vc1, .inl rfl,rfl,rfl,rfl,rfl,rfl,by omega,by omega,by omega⟩
    ·obtain⟨now,ents⟩:=b
     dsimp only at hn
     subst hn
     simp(maxSteps:=1000000) [Cm,Cc,C8,Cx,Ci,C9,Cj,Ck,Bw,Da,Ch,D7,-List.getD_eq_getElem?_getD,-List.map_map,Nu,g0,g2,g3,g4,ho,fz,hd,g,c0,c1,cn,w,w',eq_false f,pk6,pk46,f6,tkc1,Fx]
     exact⟨n,by omega,C1,_,q1+1+1,vc1, .inl rfl,rfl,rfl,rfl,rfl,rfl,by omega,by omega,by omega⟩
   ·rcases hc with rfl| ⟨rfl,hn⟩
    ·simp(maxSteps:=1000000) [Cm,Cc,C8,Cx,Ci,C9,Cj,Ck,Bw,Da,Ch,D7,-List.getD_eq_getElem?_getD,-List.map_map,Nu,g0,g2,g3,g4,ho,fz,hd,g,c0,c1,cn,w,w',eq_false f,pk6,f6]
     exact⟨n,by omega,b1,_,q1+1,hdg, .inl rfl,rfl,rfl,rfl,rfl,rfl,by omega,by omega,by omega⟩
    ·obtain⟨now,ents⟩:=b
     dsimp only at hn
     subst hn
     simp(maxSteps:=1000000) [Cm,Cc,C8,Cx,Ci,C9,Cj,Ck,Bw,Da,Ch,D7,-List.getD_eq_getElem?_getD,-List.map_map,Nu,g0,g2,g3,g4,ho,fz,hd,g,c0,c1,cn,w,w',eq_false f,pk6,f6,Fx]
     exact⟨n,by omega,b1,_,q1+1,hdg, .inl rfl,rfl,rfl,rfl,rfl,rfl,by omega,by omega,by omega⟩
def xk (m:Nat):Bp:=120::K5 m
theorem Bln (m:Nat) (h1:10≤m) (h2:m<100):xk m=[120,UInt8.ofNat (48+m / 10),UInt8.ofNat (48+m % 10)]:=by
 unfold xk K5
 rw[if_neg (by omega),Int.toNat_natCast,Qf,dif_neg (by omega),Qf,dif_pos (by omega)]
 rfl
theorem B0h {m n:Nat} (h1:10≤m) (h2:m<100) (h3:10≤n) (h4:n<100) (h:xk m=xk n):m=n:=by
 rw[Bln m h1 h2,Bln n h3 h4] at h
 simp only[List.cons.injEq,true_and,and_true] at h
 obtain⟨a,b⟩:=h
 have a:=congrArg UInt8.toNat a
 have b:=congrArg UInt8.toNat b
 simp only[UInt8.toNat_ofNat'] at a b
 omega
def Sy (n:Nat) (e:En):Bool:=(List.range 40).all fun m=> !(decide (n≤m) &&decide (e.key=xk m))
theorem Xo (n:Nat) (e:En):Sy n e=true↔∀m,n≤m→m<40→e.key≠xk m:=by
 unfold Sy
 rw[List.all_eq_true]
 constructor
 ·intro h m h1 h2 h3
  have:=h m (List.mem_range.2 h2)
  simp[h1,h3] at this
 ·intro h m hm
  have hm:=List.mem_range.1 hm
  by_cases h1:n≤m
  ·simp[h1,h m h1 hm]
  ·simp[h1]
theorem Bo3 {n:Nat} {e:En} (h:Sy n e=true):Sy (n+1) e=true:=(Xo _ _).2 fun m h1 h2=> (Xo _ _).1 h m (by omega) h2
theorem Bjc (p:En→Bool) (es:List En) (k:Nat) (hk:k<es.length) (hp:p (es.getD k default)=false): (G6 es k).countP p=es.countP p:=by
 have h:es=es.take k++es.getD k default::es.drop (k+1):=by rw[←Bf1 es k default hk,List.take_append_drop]
 conv=>rhs;rw[h]
 unfold G6
 rw[List.countP_append,List.countP_append,List.countP_cons_of_neg (by rw[hp];simp)]
theorem Buq (n:Nat) (h1:10≤n) (h2:n<40):Gn ⟨xk n,0,1,[],[],[],[]⟩=true:=by
 rw[Bln n h1 (by omega)]
 rfl
theorem Br0 {b:Ba} (n:Nat) (h1:10≤n) (h2:n<40) (hl:b.ents.length<12):b.ents.countP (Sy n)+1≤(Pd b ⟨xk n,0,1,[],[],[],[]⟩).1.ents.countP (Sy (n+1)):=by
 have hd: (Dn b (xk n)).ents.length<12:=by have:=Sl b (xk n);omega
 have hp:Pd b ⟨xk n,0,1,[],[],[],[]⟩=(⟨b.now,D6 (Dn b (xk n)).ents (J2 (Dn b (xk n)).ents (xk n)) ⟨xk n,0,1,[],[],[],[]⟩⟩,true):=by
  unfold Pd
  rw[if_neg (by simp[Qx]),if_pos (by unfold Ny;rw[Buq n h1 h2];simp[hd])]
 rw[hp]
 have hs:Sy (n+1) ⟨xk n,0,1,[],[],[],[]⟩=true:=(Xo _ _).2 fun m a c h=>by have:=B0h h1 (by omega) (by omega) (by omega) h;omega
 dsimp only
 unfold D6
 rw[List.countP_append,List.countP_cons_of_pos hs]
 have h3: ((Dn b (xk n)).ents.take (J2 (Dn b (xk n)).ents (xk n))).countP (Sy (n+1))+((Dn b (xk n)).ents.drop (J2 (Dn b (xk n)).ents (xk n))).countP (Sy (n+1))=(Dn b (xk n)).ents.countP (Sy (n+1)):=by
  rw[←List.countP_append,List.take_append_drop]
 have h4: (Dn b (xk n)).ents.countP (Sy n)≤(Dn b (xk n)).ents.countP (Sy (n+1)):=List.countP_mono_left fun e _ h=>Bo3 h
 have h5: (Dn b (xk n)).ents.countP (Sy n)=b.ents.countP (Sy n):=by
  unfold Dn
  split
  ·rename_i hh
   refine Bjc _ _ _ (Mk hh) ?_
   unfold Jz at hh
   simp only[Bool.and_eq_true,decide_eq_true_eq] at hh
   cases hse:Sy n (b.ents.getD (J2 b.ents (xk n)) default) with
   |false=>rfl
   |true=>exact absurd hh.2 ((Xo _ _).1 hse n (Nat.le_refl _) h2)
  ·rfl
 omega
def XI (H:Hp) (r:Nat) (bs:List Int) (A:Ev.Obj) (q:Int) (j:Nat) (e:Env) (X:Hp):Prop:=
 ∃ (b:Ba) (c:V) (n:Nat),BaG b∧Blr c b∧X=rh H r bs q [A, .row 0 2 [c]]∧e.get 2= .ptr (Bc H) 0 0 0∧e.get 3= .ptr (Bc H+1) 0 0 0∧e.get 6= .d (.int .i64 n)∧n+j=22∧10≤n∧n - 10≤b.ents.countP (Sy n)
def XE (H:Hp) (r:Nat) (bs:List Int) (A:Ev.Obj) (q:Int) (o:Out) (e:Env) (X:Hp):Prop:=
 o= .exit 2∧∃ (b:Ba) (c:V),BaG b∧Blr c b∧X=rh H r bs q [A, .row 0 2 [c]]∧e.get 2= .ptr (Bc H) 0 0 0∧e.get 3= .ptr (Bc H+1) 0 0 0
theorem B1j (H:Hp) (r:Nat) (bs:List Int) (A:Ev.Obj) (q:Int) (j:Nat) (e:Env) (X:Hp) (hI:XI H r bs A q j e X):
  Gives (XE H r bs A q) (Bg (Bq (ev R) R.glob (Bc H) Bg Bc6) [2,3,6] ⟨e,X⟩):=by
 refine Le (F:=Bq (ev R) R.glob (Bc H) Bg Bc6) (lv:=[2,3,6]) (XI H r bs A q) (XE H r bs A q) ?_ j e X hI
 show ∀n e X,XI H r bs A q n e X→Gives (Ru (Nxt (XI H r bs A q) n) (XE H r bs A q)) _
 rintro j e X ⟨b,c,n,hg,hc,rfl,g2,g3,g6,hn,h10,hcnt⟩
 have hle:=List.countP_le_length (p:=Sy n) (l:=b.ents)
 by_cases hl:b.ents.length<12
 ·have hj:0<j:=by omega
  have hl': (b.ents.length:Int)<12:=by omega
  have p1:=Bkm (n:Int) (by omega)
  have he:EnQ ⟨xk n,0,1,[],[],[],[]⟩:=Bam (Buq n h10 (by omega))
  have p2:=Bzq b ⟨xk n,0,1,[],[],[],[]⟩ hg.sm he.sm he.fit
  have hpg:=Bmu hg ⟨xk n,0,1,[],[],[],[]⟩
  have hpm:=Br0 n h10 (by omega) hl
  have dl:=he.key
  dsimp only at dl
  have sr:1+(K5 n).length≤Gr:=by unfold xk at dl;rw[List.length_cons] at dl;unfold Gr;omega
  have w:IntKind.i64.wrap ((n:Int)+1)=(n:Int)+1:=IntWalk.i64_in _ (by omega)
  unfold xk at p2 hpg hpm
  generalize Pd b ⟨120::K5 n,0,1,[],[],[],[]⟩=P at*
  obtain⟨b1,ok⟩:=P
  dsimp only at*
  rcases hc with rfl| ⟨rfl,hz⟩
  ·simp(maxSteps:=1000000) [Cm,Cc,C8,Cx,Ci,C9,Cj,Ck,Bw,Da,Ch,D7,-List.getD_eq_getElem?_getD,-List.map_map,Bc6,g2,g3,g6,hl',hl,p1,p2,sr,w]
   exact⟨j - 1,by omega,b1,_,n+1,hpg, .inl rfl,rfl,rfl,rfl,rfl,by omega,by omega,by omega⟩
  ·obtain⟨now,ents⟩:=b
   dsimp only at hz
   subst hz
   simp(maxSteps:=1000000) [Cm,Cc,C8,Cx,Ci,C9,Cj,Ck,Bw,Da,Ch,D7,-List.getD_eq_getElem?_getD,-List.map_map,Bc6,g2,g3,g6,p1,p2,sr,w,Fx]
   exact⟨j - 1,by omega,b1,_,n+1,hpg, .inl rfl,rfl,rfl,rfl,rfl,by omega,by omega,by omega⟩
 ·have hl': ¬ (b.ents.length:Int)<12:=by omega
  rcases hc with rfl| ⟨rfl,hz⟩
  ·simp(maxSteps:=1000000) [Cm,Cc,C8,Cx,Ci,C9,Cj,Ck,Bw,Da,Ch,D7,-List.getD_eq_getElem?_getD,-List.map_map,Bc6,g2,g3,g6,hl',hl]
   exact⟨rfl,b,_,hg, .inl rfl,rfl,rfl,rfl⟩
  ·rw[hz] at hl
   simp at hl
theorem B5i (H:Hp) (r:Nat) (bs:List Int) (p:Int) (h:Ce H r=some (rd bs p)) (hb:Cy bs) (hp:0≤p) (hp2:p≤10000000):
  ∃ (b:Ba) (q:Int),ev R 53 [.ptr r 0 0 0] H=some (.d (Dx b),Bv H r (rd bs q))∧BaG b∧p≤q∧q≤p+600:=by
 have hr:=Dy h
 have hH:=Sv H r bs h
 have o1:=fun l=>Yl (H:=H) (l:=l) (r:=r) (bs:=bs) (q:=p) [0,0,10,1000000] hr hb hp (by omega) (by simp) (by simp)
 have om:=Qk bs p [0,0,10,1000000] hb hp (by omega) (by simp)
 generalize Bbq bs p [0,0,10,1000000]=now at*
 simp only[Bgo,List.map_cons,List.map_nil] at o1
 have hnow:0≤now∧now≤1000000:=by
  simp only[List.mem_cons,List.not_mem_nil,or_false] at om
  omega
 have p14:=fun l=>Gq (H:=H) (l:=l) (r:=r) (bs:=bs) (q:=p+1) 14 hr hb (by omega) (by omega)
 obtain⟨k0,k1⟩:=Gd bs (p+1) 14 hb (by omega) (by omega)
 have k1:=k1 (by omega)
 generalize Cr bs (p+1) 14=k at*
 obtain⟨k,rfl⟩:=Int.eq_ofNat_of_zero_le k0
 obtain⟨o,e',X',he,rfl,b,c,q,hg,hc,rfl,g0,g2,g3,q1,q2⟩:=(B5q H r bs (.row 0 2 [.agg [.d (.int .i64 0), .nils 7]]) (p+1+1) hr hb (by omega) (by omega) k
  [(0, .ptr r 0 0 0),(2, .ptr (Bc H) 0 0 0),(3, .ptr (Bc H+1) 0 0 0),(4, .d (.int .i64 k))] (rh H r bs (p+1+1) [.row 0 2 [.agg [.d (.int .i64 0), .nils 7]], .row 0 2 [.agg [.d (.int .i64 now), .nils 7]]])
  ⟨⟨now,[]⟩,_,p+1+1,⟨by simp,by simp,by dsimp only;omega⟩, .inr ⟨rfl,rfl⟩,rfl,rfl,rfl,rfl,rfl,by omega,by omega,by omega⟩).out
 have p30:=fun l=>Gq (H:=H) (l:=l) (r:=r) (bs:=bs) (q:=q) 30 hr hb (by omega) (by omega)
 by_cases f:Cr bs q 30=0
 ·obtain⟨o2,e2,X2,he2,rfl,b2,c2,hg2,hc2,rfl,m2,m3⟩:=(B1j H r bs (.row 0 2 [.agg [.d (.int .i64 0), .nils 7]]) (q+1) 12
   [(2, .ptr (Bc H) 0 0 0),(3, .ptr (Bc H+1) 0 0 0),(6, .d (.int .i64 10))] (rh H r bs (q+1) [.row 0 2 [.agg [.d (.int .i64 0), .nils 7]], .row 0 2 [c]])
   ⟨b,c,10,hg,hc,rfl,rfl,rfl,rfl,by omega,by omega,by omega⟩).out
  refine⟨b2,q+1, ?_,hg2,by omega,by omega⟩
  conv=>lhs;rw[hH]
  refine Bh (fn:=f53) rfl rfl ?_
  rcases hc2 with rfl| ⟨rfl,hz⟩
  ·simp(maxSteps:=1000000) [Cm,Cc,C8,Cx,Ci,C9,Cj,Ck,Bw,Da,Ch,D7,-List.getD_eq_getElem?_getD,-List.map_map,f53,o1,p14,he,g0,g2,g3,p30,f,he2,m2,m3]
  ·obtain⟨now2,ents⟩:=b2
   dsimp only at hz
   subst hz
   simp(maxSteps:=1000000) [Cm,Cc,C8,Cx,Ci,C9,Cj,Ck,Bw,Da,Ch,D7,-List.getD_eq_getElem?_getD,-List.map_map,f53,o1,p14,he,g0,g2,g3,p30,f,he2,m2,m3,Fx]
 ·refine⟨b,q+1, ?_,hg,by omega,by omega⟩
  conv=>lhs;rw[hH]
  refine Bh (fn:=f53) rfl rfl ?_
  rcases hc with rfl| ⟨rfl,hz⟩
  ·simp(maxSteps:=1000000) [Cm,Cc,C8,Cx,Ci,C9,Cj,Ck,Bw,Da,Ch,D7,-List.getD_eq_getElem?_getD,-List.map_map,f53,o1,p14,he,g0,g2,g3,p30,f]
  ·obtain⟨now2,ents⟩:=b
   dsimp only at hz
   subst hz
   simp(maxSteps:=1000000) [Cm,Cc,C8,Cx,Ci,C9,Cj,Ck,Bw,Da,Ch,D7,-List.getD_eq_getElem?_getD,-List.map_map,f53,o1,p14,he,g0,g2,g3,p30,f,Fx]
structure BaL (b:Ba):Prop where
 len:b.ents.length≤13
 each: ∀e∈b.ents,EnQ e
 now: -1≤b.now∧b.now≤2000000
theorem BaL.sm {b:Ba} (h:BaL b):BaSm b:=⟨by have:=h.len;omega,fun e he=> (h.each e he).sm⟩
theorem BaL.fit {b:Ba} (h:BaL b):BaFit b:=⟨by have:=h.now;exact⟨by omega,by omega⟩,by have:=h.len;omega,fun e he=> (h.each e he).fit⟩
theorem BaG.l {b:Ba} (h:BaG b):BaL b:=⟨by have:=h.len;omega,fun e he=>Bam (h.each e he),by have:=h.now;omega⟩
theorem Bnh (n:Int) (e:En):D.agg [.int .i64 n, .vals 7 [F6 e]]=Dx ⟨n,[e]⟩:=rfl
theorem Bqy (e:En) (z:Int):D.agg [.str e.key, .int .i64 e.till, .int .i64 z, .str e.text, .vals 1 (e.list.map D.str),Dr e.scores,Fs e.fields]=F6 ⟨e.key,e.till,z,e.text,e.list,e.scores,e.fields⟩:=rfl
def B0m (H:Hp) (r:Nat) (bs:List Int) (p:Int):Prop:=
 ∃ (b:Ba) (q:Int),ev R 28 [.ptr r 0 0 0] H=some (.d (Dx b),Bv H r (rd bs q))∧BaL b∧p≤q∧q≤p+700
theorem B5b (H:Hp) (r:Nat) (bs:List Int) (p:Int) (h:Ce H r=some (rd bs p)) (hb:Cy bs) (hp:0≤p) (hp2:p≤10000000):B0m H r bs p:=by
 have hr:=Dy h
 have hH:=Sv H r bs h
 have bl: ∀l,∃ (b:Ba) (q:Int),ev R 53 [.ptr r 0 0 0] (rh H r bs p l)=some (.d (Dx b),Bv (rh H r bs p l) r (rd bs q))∧BaG b∧p≤q∧q≤p+600:=fun l=>B5i _ r bs p (Y6 H l r bs p hr) hb hp hp2
 obtain⟨⟨now,es⟩,q,e0,hg,q1,q2⟩:=bl [.row 0 2 [.agg [.d (.int .i64 0), .nils 7]]]
 rw[Ps H _ r bs p hr] at e0
 clear bl
 have p16:=fun l=>Gq (H:=H) (l:=l) (r:=r) (bs:=bs) (q:=q) 16 hr hb (by omega) (by omega)
 have hL:=hg.l
 by_cases hes:es=[]
 ·subst hes
  have p0: ∀X,ev R 36 [.d (Dx ⟨now,[]⟩)] X=some (.agg [.d (.int .i64 now), .nils 7],X):=fun X=>Bnt ⟨now,[]⟩ hg.sm.len hg.sm.each X
  by_cases c0:Cr bs q 16=0
  ·have o1:=fun l=>Yl (H:=H) (l:=l) (r:=r) (bs:=bs) (q:=q+1) [-1,1000001,50] hr hb (by omega) (by omega) (by simp) (by simp)
   have om:=Qk bs (q+1) [-1,1000001,50] hb (by omega) (by omega) (by simp)
   generalize Bbq bs (q+1) [-1,1000001,50]=z at*
   simp only[Bgo,List.map_cons,List.map_nil] at o1
   refine⟨⟨z,[]⟩,q+1+1, ?_,⟨by simp,by simp,by simp only[List.mem_cons,List.not_mem_nil,or_false] at om;dsimp only;omega⟩,by omega,by omega⟩
   conv=>lhs;rw[hH]
   refine Bh (fn:=f28) rfl rfl ?_
   simp(maxSteps:=1000000) [Cm,Cc,C8,Cx,Ci,C9,Cj,Ck,Bw,Da,Ch,D7,-List.getD_eq_getElem?_getD,-List.map_map,f28,e0,p0,p16,c0,o1,Fx]
  by_cases c1:Cr bs q 16=1
  ·refine⟨⟨now,[]⟩,q+1, ?_,hL,by omega,by omega⟩
   conv=>lhs;rw[hH]
   refine Bh (fn:=f28) rfl rfl ?_
   simp(maxSteps:=1000000) [Cm,Cc,C8,Cx,Ci,C9,Cj,Ck,Bw,Da,Ch,D7,-List.getD_eq_getElem?_getD,-List.map_map,f28,e0,p0,p16,c1,Fx]
  by_cases c2:Cr bs q 16=2
  ·have o1:=fun l=>Bsa (H:=H) (l:=l) (r:=r) (bs:=bs) (q:=q+1) [[],[122,122],[97]] hr hb (by omega) (by omega) (by simp)
   have om:=Wz bs (q+1) [[],[122,122],[97]] 40 (by simp)
   generalize ofV bs (q+1) [[],[122,122],[97]]=z at*
   simp only[Bf,List.map_cons,List.map_nil] at o1
   have eq:EnQ ⟨z,0,1,[],[],[],[]⟩:=⟨by dsimp only;omega,by simp,by simp,by simp,by simp,by simp,by simp,by simp,by simp,by simp⟩
   refine⟨⟨now,[⟨z,0,1,[],[],[],[]⟩]⟩,q+1+1, ?_,⟨by simp,by simpa using eq,hL.now⟩,by omega,by omega⟩
   conv=>lhs;rw[hH]
   refine Bh (fn:=f28) rfl rfl ?_
   have rm: (120:Nat)≤Cv:=by unfold Cv;omega
   simp(maxSteps:=1000000) [Cm,Cc,C8,Cx,Ci,C9,Cj,Ck,Bw,Da,Ch,D7,-List.getD_eq_getElem?_getD,-List.map_map,f28,e0,p0,p16,c2,o1,Bnh,rm]
  ·refine⟨⟨now,[]⟩,q+1, ?_,hL,by omega,by omega⟩
   conv=>lhs;rw[hH]
   refine Bh (fn:=f28) rfl rfl ?_
   simp(maxSteps:=1000000) [Cm,Cc,C8,Cx,Ci,C9,Cj,Ck,Bw,Da,Ch,D7,-List.getD_eq_getElem?_getD,-List.map_map,f28,e0,p0,p16,eq_false c0,eq_false c1,eq_false c2,Fx]
 ·have p0: ∀X,ev R 36 [.d (Dx ⟨now,es⟩)] X=some (.agg [.d (.int .i64 now), .slc (Bc X) 0 0 es.length],ap X [.row 0 7 ((es.map F6).map V.d)]):=fun X=>by
   rw[Bnt ⟨now,es⟩ hg.sm.len hg.sm.each X]
   cases es with
   |nil=>exact absurd rfl hes
   |cons z r=>rfl
  have hl:=hg.len
  dsimp only at hl
  have l0:0<es.length:=List.length_pos_iff.2 hes
  have l1: (0:Int)< (es.length:Int):=by omega
  have ft:List.take es.length ((es.map F6).map V.d)=(es.map F6).map V.d:=List.take_of_length_le (by simp)
  by_cases c0:Cr bs q 16=0
  ·have o1:=fun l=>Yl (H:=H) (l:=l) (r:=r) (bs:=bs) (q:=q+1) [-1,1000001,50] hr hb (by omega) (by omega) (by simp) (by simp)
   have om:=Qk bs (q+1) [-1,1000001,50] hb (by omega) (by omega) (by simp)
   generalize Bbq bs (q+1) [-1,1000001,50]=z at*
   simp only[Bgo,List.map_cons,List.map_nil] at o1
   refine⟨⟨z,es⟩,q+1+1, ?_,⟨hL.len,hL.each,by simp only[List.mem_cons,List.not_mem_nil,or_false] at om;dsimp only;omega⟩,by omega,by omega⟩
   conv=>lhs;rw[hH]
   refine Bh (fn:=f28) rfl rfl ?_
   simp(maxSteps:=1000000) [Cm,Cc,C8,Cx,Ci,C9,Cj,Ck,Bw,Da,Ch,D7,-List.getD_eq_getElem?_getD,-List.map_map,f28,e0,p0,p16,c0,o1,ft]
  by_cases c1:Cr bs q 16=1
  ·have o1:=fun l=>Gq (H:=H) (l:=l) (r:=r) (bs:=bs) (q:=q+1) es.length hr hb (by omega) (by omega)
   have o2:=fun l=>Gq (H:=H) (l:=l) (r:=r) (bs:=bs) (q:=q+1+1) 7 hr hb (by omega) (by omega)
   obtain⟨k0,k1⟩:=Gd bs (q+1) es.length hb (by omega) (by omega)
   obtain⟨k2,k3⟩:=Gd bs (q+1+1) 7 hb (by omega) (by omega)
   have k1:=k1 (by omega)
   have k3:=k3 (by omega)
   generalize Cr bs (q+1) es.length=i at*
   generalize Cr bs (q+1+1) 7=kd at*
   obtain⟨i,rfl⟩:=Int.eq_ofNat_of_zero_le k0
   have hi:i<es.length:=by omega
   have hm:es[i]∈es:=List.getElem_mem hi
   have hq:=hL.each _ hm
   obtain⟨E,g⟩: ∃E,es[i]=E:=⟨_,rfl⟩
   rw[g] at hm hq
   have sf:=Bcd F6 es i ⟨E.key,E.till,kd,E.text,E.list,E.scores,E.fields⟩
   have sl: (es.set i ⟨E.key,E.till,kd,E.text,E.list,E.scores,E.fields⟩).length=es.length:=List.length_set
   have ee:EnQ ⟨E.key,E.till,kd,E.text,E.list,E.scores,E.fields⟩:=⟨hq.key,hq.text,hq.list,hq.lists,hq.scores,hq.scoress,hq.fields,hq.fieldss,hq.till,by dsimp only;omega⟩
   have em: ∀e∈es.set i ⟨E.key,E.till,kd,E.text,E.list,E.scores,E.fields⟩,EnQ e:=fun e he=>by
    rcases List.mem_or_eq_of_mem_set he with h1|h1
    ·exact hL.each e h1
    ·rw[h1];exact ee
   generalize es.set i ⟨E.key,E.till,kd,E.text,E.list,E.scores,E.fields⟩=ES at*
   have ft2:List.take es.length ((ES.map F6).map V.d)=(ES.map F6).map V.d:=List.take_of_length_le (by simp[sl])
   refine⟨⟨now,ES⟩,q+1+1+1, ?_,⟨by dsimp only;omega,em,hL.now⟩,by omega,by omega⟩
   conv=>lhs;rw[hH]
   refine Bh (fn:=f28) rfl rfl ?_
   simp(maxSteps:=1000000) [Cm,Cc,C8,Cx,Ci,C9,Cj,Ck,Bw,Da,Ch,D7,-List.getD_eq_getElem?_getD,-List.map_map,f28,e0,p0,p16,c1,o1,o2,l0,l1,hi,k1,g,sf,sl,ft2,Bqy]
  by_cases c2:Cr bs q 16=2
  ·have o1:=fun l=>Bsa (H:=H) (l:=l) (r:=r) (bs:=bs) (q:=q+1) [[],[122,122],[97]] hr hb (by omega) (by omega) (by simp)
   have om:=Wz bs (q+1) [[],[122,122],[97]] 40 (by simp)
   generalize ofV bs (q+1) [[],[122,122],[97]]=z at*
   simp only[Bf,List.map_cons,List.map_nil] at o1
   have eq:EnQ ⟨z,0,1,[],[],[],[]⟩:=⟨by dsimp only;omega,by simp,by simp,by simp,by simp,by simp,by simp,by simp,by simp,by simp⟩
   obtain⟨ES,hES⟩: ∃ES,ES=es++[(⟨z,0,1,[],[],[],[]⟩:En)]:=⟨_,rfl⟩
   have sf:List.map V.d (List.map F6 es)++[V.d (F6 ⟨z,0,1,[],[],[],[]⟩)]=List.map V.d (List.map F6 ES):=by rw[hES];simp
   have sl:ES.length=es.length+1:=by rw[hES];simp
   have em: ∀e∈ES,EnQ e:=fun e he=>by
    rw[hES] at he
    simp only[List.mem_append,List.mem_singleton] at he
    rcases he with h1|h1
    ·exact hL.each e h1
    ·rw[h1];exact eq
   refine⟨⟨now,ES⟩,q+1+1, ?_,⟨by dsimp only;omega,em,hL.now⟩,by omega,by omega⟩
   conv=>lhs;rw[hH]
   refine Bh (fn:=f28) rfl rfl ?_
   have rm: (es.length+1)*120≤Cv:=by unfold Cv;omega
   have ft2:List.take (es.length+1) ((ES.map F6).map V.d)=(ES.map F6).map V.d:=List.take_of_length_le (by simp[sl])
   simp(maxSteps:=1000000) [Cm,Cc,C8,Cx,Ci,C9,Cj,Ck,Bw,Da,Ch,D7,-List.getD_eq_getElem?_getD,-List.map_map,f28,e0,p0,p16,c2,o1,rm,sf,sl,ft2]
  ·refine⟨⟨now,es⟩,q+1, ?_,hL,by omega,by omega⟩
   conv=>lhs;rw[hH]
   refine Bh (fn:=f28) rfl rfl ?_
   simp(maxSteps:=1000000) [Cm,Cc,C8,Cx,Ci,C9,Cj,Ck,Bw,Da,Ch,D7,-List.getD_eq_getElem?_getD,-List.map_map,f28,e0,p0,p16,eq_false c0,eq_false c1,eq_false c2,ft]
theorem B49 (H:Hp) (bs:List Int) (h: ∀i,0≤bs.getD i 0∧bs.getD i 0≤255):
  ∃ (b:Ba) (e:En),ev R 25 [.d (Rz bs)] H=some (.tup [.d (Dx b), .d (F6 e)],H)∧BaL b∧EnQ e:=by
 have ho:=Boc bs h
 have o1:=fun H=>B5a H bs
 obtain⟨b,q,e1,hL,q1,q2⟩:=B5b (ap H [.row 0 2 [.agg [.d (.int .i64 0), .nils 7]],e0A,rd (Md bs) 0]) (Bc H+2) (Md bs) 0 (by rw[Nr];rfl) ho (by omega) (by omega)
 rw[Xx] at e1
 obtain⟨e,q',e2,q3,q4,hq⟩:=B5h (ap H [.row 0 2 [.agg [.d (.int .i64 0), .nils 7]],e0A,rd (Md bs) q]) (Bc H+2) (Md bs) q (by rw[Nr];rfl) ho (by omega) (by omega)
 rw[Xx] at e2
 unfold e0A at e1 e2
 simp only[Bv] at e1 e2
 refine⟨b,e,Bh (fn:=f25) rfl rfl ?_,hL,hq⟩
 simp(maxSteps:=1000000) [Cm,-List.getD_eq_getElem?_getD,-List.map_map,f25,o1,e1,e2]
theorem Brz {b:Ba} (h:BaO b) {e:En} (hm:Ny b e=true):BaO ⟨b.now,D6 (Dn b e.key).ents (J2 (Dn b e.key).ents e.key) e⟩∧Bnf ⟨b.now,D6 (Dn b e.key).ents (J2 (Dn b e.key).ents e.key) e⟩ e.key=(e,true)∧Dn ⟨b.now,D6 (Dn b e.key).ents (J2 (Dn b e.key).ents e.key) e⟩ e.key=Dn b e.key:=by
 have hb:=Bx4 h e
 rw[hm] at hb
 have hO:=(Ja _).1 hb
 have hC:=Bfd h e.key
 have hp:=Tm hC.asc e.key
 have hle:=Bjt (Dn b e.key).ents e.key
 have hlt: ((Dn b e.key).ents.take (J2 (Dn b e.key).ents e.key)).length=J2 (Dn b e.key).ents e.key:=by rw[List.length_take];omega
 have hnow:=Pb b e.key
 generalize J2 (Dn b e.key).ents e.key=k at*
 have hk:J2 (D6 (Dn b e.key).ents k e) e.key=k:=by
  unfold J2 D6
  rw[List.takeWhile_append_of_pos (fun x hx=>hp.1 x hx),List.length_append,List.takeWhile_cons,G8,hlt]
  simp
 have hg: (D6 (Dn b e.key).ents k e).getD k default=e:=by
  unfold D6
  rw[List.getD_eq_getElem?_getD,List.getElem?_append_right (by omega),hlt,Nat.sub_self]
  rfl
 have hh:Jz (D6 (Dn b e.key).ents k e) e.key=true:=by
  unfold Jz
  rw[hk,hg,Fy]
  simp;omega
 refine⟨hO, ?_, ?_⟩
 ·unfold Bnf Ca
  dsimp only
  rw[hb,hh]
  simp only[and_self,if_true]
  rw[hk,hg]
 ·show(if Jz (D6 (Dn b e.key).ents k e) e.key=true then _ else _)=_
  rw[if_pos hh,hk]
  dsimp only
  have hd:G6 (D6 (Dn b e.key).ents k e) k=(Dn b e.key).ents:=by
   unfold G6 D6
   rw[List.take_append_of_le_length (by omega),List.take_of_length_le (by omega),List.drop_append,hlt,List.drop_of_length_le (by omega),List.nil_append]
   rw[show k+1 - k=1 by omega,List.drop_succ_cons,List.drop_zero,List.take_append_drop]
  rw[hd,←hnow]
theorem Bor {b:Ba} {t:Bp} (h:Jz b.ents t=false):Dn b t=b:=by unfold Dn;rw[if_neg (by rw[h];simp)]
theorem Bnx {e:En} (h:Gn e=true) (hk: ¬e.kind=1):e.text=[]:=by
 unfold Gn Mr at h
 rw[if_neg hk] at h
 have hi: ∀ {t:Bp},t.isEmpty=true→t=[]:=fun {t} h=>by cases t<;>simp_all
 simp only[Bool.and_eq_true] at h
 obtain⟨_,h⟩:=h
 split at h
 ·simp only[Bool.and_eq_true] at h;exact hi h.1.1.1.1
 ·split at h
  ·simp only[Bool.and_eq_true] at h;exact hi h.1.1.1.1
  ·split at h
   ·simp only[Bool.and_eq_true] at h;exact hi h.1.1.1.1
   ·split at h
    ·simp only[Bool.and_eq_true] at h;exact hi h.1.1.1.1
    ·simp at h
theorem e_6 (H:Hp) (bs:List Int) (h: ∀i,0≤bs.getD i 0∧bs.getD i 0≤255):ev R 6 [.d (Rz bs)] H=some (.d (.bool true),H):=by
 by_cases hbig:1048576<bs.length
 ·refine Bh (fn:=f6) rfl rfl ?_
  have hbig': (1048576:Int)< (bs.length:Int):=by omega
  simp(maxSteps:=1000000) [Cm,-List.getD_eq_getElem?_getD,-List.map_map,f6,hbig']
 have hbig': ¬ (1048576:Int)< (bs.length:Int):=by omega
 obtain⟨b,e,ed,hL,hq⟩:=B49 H bs h
 refine Bh (fn:=f6) rfl rfl ?_
 have p1:=B7x b e hL.sm hL.fit hq.sm hq.fit
 have p2:=B7y b e hL.sm hL.fit hq.sm hq.fit
 have p3:=Bhd b hL.fit
 have p5:=Bv1 b hL.fit
 have q0:=Z7 hL.sm
 have q1:BaSm ⟨0,[]⟩:=⟨by simp,by simp⟩
 have s2:=Bwe hq.sm
 have p6:=Bzo b e.key hL.sm hL.fit
 unfold Bi2 at p1 p2
 unfold Bc0 at p6
 cases hk:Js b with
 |false=>
  rw[hk] at p1 p2 p3 p5
  simp only[Bool.false_eq_true,if_false] at p1 p2
  have s1:=Z7 q1
  generalize(⟨0,[]⟩:Ba)=B at*
  simp(maxSteps:=1000000) [Cm,-List.getD_eq_getElem?_getD,-List.map_map,f6,hbig',ed,p1,p2,p3,p5,s1]
 |true=>
  have hO:=(Ja b).1 hk
  rw[hk] at p1 p2 p3 p5 p6
  simp only[if_true] at p1 p2 p6
  have hC:=Bfd hO e.key
  have sC:=Z7 hC.g.sm
  unfold Pd at p1 p2
  cases he:Qx e with
  |true=>
   rw[he] at p1 p2
   simp only[if_true] at p1 p2
   have p7:=B33 (Dn b e.key) e.key hC.g.sm hC.g.fit
   unfold Bnf at p7
   rw[Xf hO e.key] at p7
   simp only[Bool.false_eq_true,and_false,if_false] at p7
   have p8:=Bzo (Dn b e.key) e.key hC.g.sm hC.g.fit
   unfold Bc0 at p8
   rw[(Ja _).2 hC,Bor (Xf hO e.key)] at p8
   simp only[if_true] at p8
   have p9:=Bhd (Dn b e.key) hC.g.fit
   rw[(Ja _).2 hC] at p9
   have he2:=he
   unfold Qx at he2
   simp only[Bool.and_eq_true,decide_eq_true_eq] at he2
   obtain⟨⟨k1,k2⟩,k3⟩:=he2
   have a1: (e.list.length:Int)=0:=by omega
   have a2: (e.scores.length:Int)=0:=by omega
   have a3: (e.fields.length:Int)=0:=by omega
   have w0:IntKind.i64.wrap 0=0:=IntWalk.i64_in _ (by omega)
   generalize Dn b e.key=C at*
   generalize Jz b.ents e.key=z at*
   generalize Jz C.ents e.key=z' at*
   simp(maxSteps:=1000000) [Cm,-List.getD_eq_getElem?_getD,-List.map_map,f6,hbig',ed,p1,p2,p3,p5,p6,p7,p8,p9,sC,eq_false k1,a1,a2,a3,w0]
  |false=>
   rw[he] at p1 p2
   simp only[Bool.false_eq_true,if_false] at p1 p2
   cases hm:Ny b e with
   |false=>
    rw[hm] at p1 p2
    simp only[Bool.false_eq_true,if_false] at p1 p2
    simp(maxSteps:=1000000) [Cm,-List.getD_eq_getElem?_getD,-List.map_map,f6,hbig',ed,p1,p2,p3,p5,q0]
   |true=>
    rw[hm] at p1 p2
    simp only[if_true] at p1 p2
    obtain⟨hT,g1,g2⟩:=Brz hO hm
    generalize D6 (Dn b e.key).ents (J2 (Dn b e.key).ents e.key) e=I at*
    have sT:=Z7 hT.g.sm
    have p7:=B33 _ e.key hT.g.sm hT.g.fit
    rw[g1] at p7
    have p8:=Bzo _ e.key hT.g.sm hT.g.fit
    unfold Bc0 at p8
    rw[(Ja _).2 hT,g2] at p8
    simp only[if_true] at p8
    have p9:=Bhd _ hT.g.fit
    rw[(Ja _).2 hT] at p9
    have hl1:=hq.list
    have hl2:=hq.scores
    have hl3:=hq.fields
    have w1:IntKind.i64.wrap ((e.list.length:Int)+(e.scores.length:Int))=(e.list.length:Int)+(e.scores.length:Int):=IntWalk.i64_in _ (by omega)
    have w2:IntKind.i64.wrap ((e.list.length:Int)+(e.scores.length:Int)+(e.fields.length:Int))=(e.list.length:Int)+(e.scores.length:Int)+(e.fields.length:Int):=IntWalk.i64_in _ (by omega)
    have hok:Gn e=true:=by
     unfold Ny at hm
     simp only[Bool.and_eq_true] at hm
     exact hm.1.1
    generalize(⟨b.now,I⟩:Ba)=T at*
    generalize Dn b e.key=C at*
    generalize Jz b.ents e.key=z at*
    generalize Jz T.ents e.key=z' at*
    by_cases k1:e.kind=1
    ·simp(maxSteps:=1000000) [Cm,-List.getD_eq_getElem?_getD,-List.map_map,f6,hbig',ed,p1,p2,p3,p5,p6,p7,p8,p9,sT,sC,s2,eq_true k1]
    ·have hn: ¬ (e.list.length:Int)+(e.scores.length:Int)+(e.fields.length:Int)=0:=fun hs=>by
      have t0:=Bnx hok k1
      unfold Qx at he
      rw[t0] at he
      simp only[Bool.and_eq_false_iff,decide_eq_false_iff_not] at he
      rcases he with(h|h) |h
      ·exact h k1
      ·exact h trivial
      ·omega
     simp(maxSteps:=1000000) [Cm,-List.getD_eq_getElem?_getD,-List.map_map,f6,hbig',ed,p1,p2,p3,p5,p6,p7,p8,p9,sT,sC,s2,eq_false k1,w1,w2,eq_false hn]
end Go.Proofs.YtjdmiodinhlchaaGreat.Code

/- Lemmas (several texts in one). -/
import Derived.Test.YtpajcoanfkeibaaGreatDoorMDoRename6
import Derived.Test.YtpajcoanfkeibaaGreatDoorMDoRename21
import Derived.Test.YtpajcoanfkeibaaGreatDoorMDoRename24
import Derived.Test.YtpajcoanfkeibaaGreatDoorMDoRename25
import Derived.Test.YtpajcoanfkeibaaGreatDoorMDoRename26
import Derived.Test.YtpajcoanfkeibaaGreatDoorMDoRename31
set_option maxRecDepth 100000
set_option maxHeartbeats 4000000
set_option linter.unusedSimpArgs false
set_option linter.unusedVariables false
namespace Go.Proofs.YtpajcoanfkeibaaGreatDoor.Code
open Go Go.Ev Go.Proofs
def Bl1 (c:V) (b:Ba):Prop:=c= .d (Df b)∨(c= .agg [.d (.int .i64 b.now), .nils 7]∧b.ents=[])
theorem Bwr {b:Ba} (hb:BaG b) (ks:List Bq):BaG (Bca b ks).1:=by
 unfold Bca
 have key: ∀ (n i:Nat) (s:Ba×Nat),BaG s.1→BaG ((List.range' i n).foldl (fun s i=>Xa ks i s) s).1:=by
  intro n
  induction n with
  |zero=>intro i s h;exact h
  |succ n ih=>intro i s h;rw[List.range'_succ,List.foldl_cons];exact ih _ _ (Bn3 ks i s h)
 exact key _ _ _ hb
theorem Bo9 (b:Ba) (ks:List Bq): (Bk1 b ks).1=b:=by
 unfold Bk1
 have key: ∀ (n i:Nat) (s:Ba×Nat),((List.range' i n).foldl (fun s i=>Be2 ks i s) s).1=s.1:=by
  intro n
  induction n with
  |zero=>intro i s;rfl
  |succ n ih=>intro i s;rw[List.range'_succ,List.foldl_cons,ih];rfl
 exact key _ _ _
theorem Jv {b:Ba} {c:Prop} [Decidable c] {x y:Ba×Re} (hx:BaG x.1) (hy:BaG y.1):BaG (if c then x else y).1:=by split<;>assumption
theorem Bh5 {b:Ba} (hb:BaG b) (k:Bq) (n:Int):BaG (Y0 b k n).1:=by
 unfold Y0
 exact Jv (b:=b) hb (Jv (b:=b) (Sy hb k) (G5 hb _ _))
theorem Bz4 {b:Ba} (hb:BaG b) (w:Bq) (r:List Bq):BaG (Db b w r).1:=by
 unfold Db
 repeat' (with_reducible refine Jv (b:=b) ?_ ?_)
 all_goals first
  |exact hb
  | (unfold Bb8;exact Jv (b:=b) (G5 hb _ _) hb)
  | (unfold Bpb;exact G5 hb _ _)
  | (unfold T9;exact Jv (b:=b) hb (G5 hb _ _))
  | (unfold N9;exact Jv (b:=b) hb hb)
  | (unfold Tc;exact Jv (b:=b) (G5 hb _ _) hb)
  | (unfold Bcb;exact Jv (b:=b) (G5 hb _ _) hb)
  | (unfold Uc;exact Jv (b:=b) hb hb)
  | (unfold Yz;exact Jv (b:=b) (G5 hb _ _) hb)
  | (unfold Bd9;exact Jv (b:=b) (Jv (b:=b) (G5 hb _ _) hb) hb)
  | (unfold Bd8;exact Jv (b:=b) (G5 hb _ _) hb)
  | (unfold Bea;exact Jv (b:=b) (G5 hb _ _) hb)
  | (unfold Beb;exact G5 hb _ _)
  | (unfold Bec;exact Jv (b:=b) (Jv (b:=b) (G5 hb _ _) hb) hb)
  | (unfold Q5;exact Jv (b:=b) (Jv (b:=b) (G5 hb _ _) hb) hb)
  | (unfold Ue;exact Jv (b:=b) hb hb)
  | (unfold Jz;exact Jv (b:=b) hb hb)
  | (unfold Bed;exact G5 hb _ _)
  | (unfold Bd7;exact Jv (b:=b) (G5 hb _ _) hb)
  | (unfold Bd6;exact G5 hb _ _)
  | (unfold Q0;exact Jv (b:=b) (Jv (b:=b) (G5 hb _ _) hb) hb)
  | (unfold Q3;exact G5 hb _ _)
  | (unfold Ub;exact Jv (b:=b) (Bh5 hb _ _) hb)
  | (unfold N8;exact Jv (b:=b) (Bh5 hb _ _) hb)
  | (unfold Ud;exact Jv (b:=b) hb (G5 (Sy hb _) _ _))
  | (unfold Bo6;exact Bwr hb _)
  | (unfold Ua;dsimp only;rw[Bo9];exact hb)
  | (unfold Yx;exact⟨by simp,by simp,hb.now⟩)
theorem B5f {b:Ba} (hb:BaG b) (args:List Bq):BaG (rDo b args).1:=by
 unfold rDo
 exact Jv (b:=b) (Bz4 hb _ _) hb
def Blz (H:Hp) (r:Nat) (bs:List Int) (A:Ev.Obj) (q0:Int) (k:Nat) (e:Env) (X:Hp):Prop:=
 ∃ (b:Ba) (c:V) (q:Int),BaG b∧Bl1 c b∧X=rh H r bs q [A, .row 0 2 [c]]∧e.get 0= .ptr r 0 0 0∧e.get 2= .ptr (Bc H) 0 0 0∧e.get 3= .ptr (Bc H+1) 0 0 0∧e.get 4= .d (.int .i64 k)∧q0≤q∧q≤q0+30*(14 - k)∧k≤14
def Bql (H:Hp) (r:Nat) (bs:List Int) (A:Ev.Obj) (q0:Int) (o:Out) (e:Env) (X:Hp):Prop:=
 o= .exit 0∧∃ (b:Ba) (c:V) (q:Int),BaG b∧Bl1 c b∧X=rh H r bs q [A, .row 0 2 [c]]∧e.get 0= .ptr r 0 0 0∧e.get 2= .ptr (Bc H) 0 0 0∧e.get 3= .ptr (Bc H+1) 0 0 0∧q0≤q∧q≤q0+500
theorem Bon {ts:List Bq} (h1:1≤ts.length) (h8:ts.length≤8) (hs: ∀x∈ts,x.length≤40):Pk ts=true:=(Wd ts).2 ⟨hs,h1,h8⟩
theorem B6k (H:Hp) (r:Nat) (bs:List Int) (A:Ev.Obj) (q0:Int) (hr:r<Bc H) (hb:Dk bs) (h0:0≤q0) (h1:q0≤100000000) (k:Nat) (e:Env) (X:Hp) (hI:Blz H r bs A q0 k e X):
  Gives (Bql H r bs A q0) (Bg (Bp (ev R) R.glob (Bc H) Bg Ph) [0,2,3,4] ⟨e,X⟩):=by
 refine Bbq (F:=Bp (ev R) R.glob (Bc H) Bg Ph) (lv:=[0,2,3,4]) (Blz H r bs A q0) (Bql H r bs A q0) ?_ k e X hI
 show ∀n e X,Blz H r bs A q0 n e X→Gives (X9 (Nxt (Blz H r bs A q0) n) (Bql H r bs A q0)) _
 rintro n e X ⟨b,c,q,hg,hc,rfl,g0,g2,g3,g4,hq0,hq1,hk⟩
 cases n with
 |zero=>
  simp(maxSteps:=1000000) [Ce,D8,Gi,Gc,Fj,Gj,Fp,Fq,Dv,Gh,Fh,J2,-List.getD_eq_getElem?_getD,-List.map_map,Ph,g0,g2,g3,g4]
  exact⟨rfl,b,c,q,hg,hc,rfl,rfl,rfl,rfl,hq0,by omega⟩
 |succ n=>
  obtain⟨ts,q1,ho,a1,a2,t1,t8,ts40⟩:=Bsu (l:=[A, .row 0 2 [c]]) hr hb (show 0≤q by omega) (show q≤1000000000 by omega)
  simp only[List.length_cons,List.length_nil,List.cons_append,List.nil_append] at ho
  have fz:=fun c'=>Bz6 H [A, .row 0 2 [c'], .row 0 1 ((ts.map D.str).map V.d)] r bs q1 2 2 0 1 ts.length (ts.map D.str) (by omega) rfl (by simp)
  have hd:=B8m b ts hg (Bon t1 t8 ts40)
  have hdg:=B5f hg ts
  have g:=Dj ts 0 (by omega)
  have c0: (0:Int)< (ts.length:Int):=by omega
  have c1:0<ts.length:=by omega
  have cn: (0:Int)< (n:Int)+1:=by omega
  have w:IntKind.i64.wrap ((n:Int)+1 - 1)=(n:Int):=by rw[IntWalk.i64_in _ (by omega)];omega
  have w':IntKind.i64.wrap (n:Int)=(n:Int):=IntWalk.i64_in _ (by omega)
  generalize rDo b ts=P at*
  obtain⟨b1,re⟩:=P
  dsimp only[Bl] at hd hdg
  have pk4:=fun l=>Mm (H:=H) (l:=l) (r:=r) (bs:=bs) (q:=q1) 4 hr hb (by omega) (by omega)
  have pk6:=fun l=>Mm (H:=H) (l:=l) (r:=r) (bs:=bs) (q:=q1) 6 hr hb (by omega) (by omega)
  have pk61:=fun l=>Mm (H:=H) (l:=l) (r:=r) (bs:=bs) (q:=q1+1) 6 hr hb (by omega) (by omega)
  have pk46:=fun l=>Mm (H:=H) (l:=l) (r:=r) (bs:=bs) (q:=q1+1) 4 hr hb (by omega) (by omega)
  have pk461:=fun l=>Mm (H:=H) (l:=l) (r:=r) (bs:=bs) (q:=q1+1+1) 4 hr hb (by omega) (by omega)
  obtain⟨k40,_⟩:=Jj bs (q1+1) 4 hb (by omega) (by omega)
  obtain⟨k41,k42⟩:=Jj bs (q1+1) 4 hb (by omega) (by omega)
  obtain⟨k43,k44⟩:=Jj bs (q1+1+1) 4 hb (by omega) (by omega)
  have k42:=k42 (by omega)
  have k44:=k44 (by omega)
  have tk: ∀ (B:Ba) (hB:BaG B) (z:Int),0≤z→z<4→Be (ev R) 66 [.d (Df B), .d (.int .i64 z)]=some (.d (Df (X5 B z))):=fun B hB z z0 z1=>B8n B z hB.sm hB.fit (by have:=hB.now;omega) (by omega)
  have tkb1:=tk b hg _ k41 k42
  have tkb2:=tk b hg _ k43 k44
  have tkc1:=tk b1 hdg _ k41 k42
  have tkc2:=tk b1 hdg _ k43 k44
  have vb1:=Ban hg (Dc bs (q1+1) 4)
  have vb2:=Ban hg (Dc bs (q1+1+1) 4)
  have vc1:=Ban hdg (Dc bs (q1+1) 4)
  have vc2:=Ban hdg (Dc bs (q1+1+1) 4)
  clear tk k40
  generalize X5 b (Dc bs (q1+1) 4)=B1 at*
  generalize X5 b (Dc bs (q1+1+1) 4)=B2 at*
  generalize X5 b1 (Dc bs (q1+1) 4)=C1 at*
  generalize X5 b1 (Dc bs (q1+1+1) 4)=C2 at*
  by_cases f:ts.getD 0 []=[70,76,85,83,72]
  ·by_cases f4:Dc bs q1 4=0
   ·by_cases f6:Dc bs (q1+1) 6=0
    ·rcases hc with rfl| ⟨rfl,hn⟩
     ·simp(maxSteps:=1000000) [Ce,D8,Gi,Gc,Fj,Gj,Fp,Fq,Dv,Gh,Fh,J2,-List.getD_eq_getElem?_getD,-List.map_map,Ph,g0,g2,g3,g4,ho,fz,hd,g,c0,c1,cn,w,w',eq_true f,pk4,pk61,pk461,f4,f6,tkc2]
      exact⟨n,by omega,C2,_,q1+1+1+1,vc2, .inl rfl,rfl,rfl,rfl,rfl,rfl,by omega,by omega,by omega⟩
     ·obtain⟨now,ents⟩:=b
      dsimp only at hn
      subst hn
      simp(maxSteps:=1000000) [Ce,D8,Gi,Gc,Fj,Gj,Fp,Fq,Dv,Gh,Fh,J2,-List.getD_eq_getElem?_getD,-List.map_map,Ph,g0,g2,g3,g4,ho,fz,hd,g,c0,c1,cn,w,w',eq_true f,pk4,pk61,pk461,f4,f6,tkc2,Fx]
      exact⟨n,by omega,C2,_,q1+1+1+1,vc2, .inl rfl,rfl,rfl,rfl,rfl,rfl,by omega,by omega,by omega⟩
    ·rcases hc with rfl| ⟨rfl,hn⟩
     ·simp(maxSteps:=1000000) [Ce,D8,Gi,Gc,Fj,Gj,Fp,Fq,Dv,Gh,Fh,J2,-List.getD_eq_getElem?_getD,-List.map_map,Ph,g0,g2,g3,g4,ho,fz,hd,g,c0,c1,cn,w,w',eq_true f,pk4,pk61,f4,f6]
      exact⟨n,by omega,b1,_,q1+1+1,hdg, .inl rfl,rfl,rfl,rfl,rfl,rfl,by omega,by omega,by omega⟩
     ·obtain⟨now,ents⟩:=b
      dsimp only at hn
      subst hn
      simp(maxSteps:=1000000) [Ce,D8,Gi,Gc,Fj,Gj,Fp,Fq,Dv,Gh,Fh,J2,-List.getD_eq_getElem?_getD,-List.map_map,Ph,g0,g2,g3,g4,ho,fz,hd,g,c0,c1,cn,w,w',eq_true f,pk4,pk61,f4,f6,Fx]
      exact⟨n,by omega,b1,_,q1+1+1,hdg, .inl rfl,rfl,rfl,rfl,rfl,rfl,by omega,by omega,by omega⟩
   ·by_cases f6:Dc bs (q1+1) 6=0
    ·rcases hc with rfl| ⟨rfl,hn⟩
     ·simp(maxSteps:=1000000) [Ce,D8,Gi,Gc,Fj,Gj,Fp,Fq,Dv,Gh,Fh,J2,-List.getD_eq_getElem?_getD,-List.map_map,Ph,g0,g2,g3,g4,ho,fz,g,c0,c1,cn,w,w',eq_true f,pk4,pk61,pk461,f4,f6,tkb2]
      exact⟨n,by omega,B2,_,q1+1+1+1,vb2, .inl rfl,rfl,rfl,rfl,rfl,rfl,by omega,by omega,by omega⟩
     ·obtain⟨now,ents⟩:=b
      dsimp only at hn
      subst hn
      simp(maxSteps:=1000000) [Ce,D8,Gi,Gc,Fj,Gj,Fp,Fq,Dv,Gh,Fh,J2,-List.getD_eq_getElem?_getD,-List.map_map,Ph,g0,g2,g3,g4,ho,fz,g,c0,c1,cn,w,w',eq_true f,pk4,pk61,pk461,f4,f6,tkb2,Fx]
      exact⟨n,by omega,B2,_,q1+1+1+1,vb2, .inl rfl,rfl,rfl,rfl,rfl,rfl,by omega,by omega,by omega⟩
    ·simp(maxSteps:=1000000) [Ce,D8,Gi,Gc,Fj,Gj,Fp,Fq,Dv,Gh,Fh,J2,-List.getD_eq_getElem?_getD,-List.map_map,Ph,g0,g2,g3,g4,ho,fz,g,c0,c1,cn,w,w',eq_true f,pk4,pk61,f4,f6]
     exact⟨n,by omega,b,c,q1+1+1,hg,hc,rfl,rfl,rfl,rfl,rfl,by omega,by omega,by omega⟩
  ·by_cases f6:Dc bs q1 6=0
   ·rcases hc with rfl| ⟨rfl,hn⟩
    ·simp(maxSteps:=1000000) [Ce,D8,Gi,Gc,Fj,Gj,Fp,Fq,Dv,Gh,Fh,J2,-List.getD_eq_getElem?_getD,-List.map_map,Ph,g0,g2,g3,g4,ho,fz,hd,g,c0,c1,cn,w,w',eq_false f,pk6,pk46,f6,tkc1]
     exact⟨n,by omega,C1,_,q1+1+1,vc1, .inl rfl,rfl,rfl,rfl,rfl,rfl,by omega,by omega,by omega⟩
    ·obtain⟨now,ents⟩:=b
     dsimp only at hn
     subst hn
     simp(maxSteps:=1000000) [Ce,D8,Gi,Gc,Fj,Gj,Fp,Fq,Dv,Gh,Fh,J2,-List.getD_eq_getElem?_getD,-List.map_map,Ph,g0,g2,g3,g4,ho,fz,hd,g,c0,c1,cn,w,w',eq_false f,pk6,pk46,f6,tkc1,Fx]
     exact⟨n,by omega,C1,_,q1+1+1,vc1, .inl rfl,rfl,rfl,rfl,rfl,rfl,by omega,by omega,by omega⟩
   ·rcases hc with rfl| ⟨rfl,hn⟩
    ·simp(maxSteps:=1000000) [Ce,D8,Gi,Gc,Fj,Gj,Fp,Fq,Dv,Gh,Fh,J2,-List.getD_eq_getElem?_getD,-List.map_map,Ph,g0,g2,g3,g4,ho,fz,hd,g,c0,c1,cn,w,w',eq_false f,pk6,f6]
     exact⟨n,by omega,b1,_,q1+1,hdg, .inl rfl,rfl,rfl,rfl,rfl,rfl,by omega,by omega,by omega⟩
    ·obtain⟨now,ents⟩:=b
     dsimp only at hn
     subst hn
     simp(maxSteps:=1000000) [Ce,D8,Gi,Gc,Fj,Gj,Fp,Fq,Dv,Gh,Fh,J2,-List.getD_eq_getElem?_getD,-List.map_map,Ph,g0,g2,g3,g4,ho,fz,hd,g,c0,c1,cn,w,w',eq_false f,pk6,f6,Fx]
     exact⟨n,by omega,b1,_,q1+1,hdg, .inl rfl,rfl,rfl,rfl,rfl,rfl,by omega,by omega,by omega⟩
def xk (m:Nat):Bq:=120::Qu m
theorem Blx (m:Nat) (h1:10≤m) (h2:m<100):xk m=[120,UInt8.ofNat (48+m / 10),UInt8.ofNat (48+m % 10)]:=by
 unfold xk Qu
 rw[if_neg (by omega),Int.toNat_natCast,Sd,dif_neg (by omega),Sd,dif_pos (by omega)]
 rfl
theorem B0t {m n:Nat} (h1:10≤m) (h2:m<100) (h3:10≤n) (h4:n<100) (h:xk m=xk n):m=n:=by
 rw[Blx m h1 h2,Blx n h3 h4] at h
 simp only[List.cons.injEq,true_and,and_true] at h
 obtain⟨a,b⟩:=h
 have a:=congrArg UInt8.toNat a
 have b:=congrArg UInt8.toNat b
 simp only[UInt8.toNat_ofNat'] at a b
 omega
def Tj (n:Nat) (e:En):Bool:=(List.range 40).all fun m=> !(decide (n≤m) &&decide (e.key=xk m))
theorem X0 (n:Nat) (e:En):Tj n e=true↔∀m,n≤m→m<40→e.key≠xk m:=by
 unfold Tj
 rw[List.all_eq_true]
 constructor
 ·intro h m h1 h2 h3
  have:=h m (List.mem_range.2 h2)
  simp[h1,h3] at this
 ·intro h m hm
  have hm:=List.mem_range.1 hm
  by_cases h1:n≤m
  ·simp[h1,h m h1 hm]
  ·simp[h1]
theorem Bpi {n:Nat} {e:En} (h:Tj n e=true):Tj (n+1) e=true:=(X0 _ _).2 fun m h1 h2=> (X0 _ _).1 h m (by omega) h2
theorem Bjp (p:En→Bool) (es:List En) (k:Nat) (hk:k<es.length) (hp:p (es.getD k default)=false): (Gw es k).countP p=es.countP p:=by
 have h:es=es.take k++es.getD k default::es.drop (k+1):=by rw[←Bgk es k default hk,List.take_append_drop]
 conv=>rhs;rw[h]
 unfold Gw
 rw[List.countP_append,List.countP_append,List.countP_cons_of_neg (by rw[hp];simp)]
theorem Bu6 (n:Nat) (h1:10≤n) (h2:n<40):Gn ⟨xk n,0,1,[],[],[],[]⟩=true:=by
 rw[Blx n h1 (by omega)]
 rfl
theorem Bse {b:Ba} (n:Nat) (h1:10≤n) (h2:n<40) (hl:b.ents.length<12):b.ents.countP (Tj n)+1≤(Ls b ⟨xk n,0,1,[],[],[],[]⟩).1.ents.countP (Tj (n+1)):=by
 have hd: (Cb b (xk n)).ents.length<12:=by have:=Qz b (xk n);omega
 have hp:Ls b ⟨xk n,0,1,[],[],[],[]⟩=(⟨b.now,Dt (Cb b (xk n)).ents (F4 (Cb b (xk n)).ents (xk n)) ⟨xk n,0,1,[],[],[],[]⟩⟩,true):=by
  unfold Ls
  rw[if_neg (by simp[M8]),if_pos (by unfold Mf;rw[Bu6 n h1 h2];simp[hd])]
 rw[hp]
 have hs:Tj (n+1) ⟨xk n,0,1,[],[],[],[]⟩=true:=(X0 _ _).2 fun m a c h=>by have:=B0t h1 (by omega) (by omega) (by omega) h;omega
 dsimp only
 unfold Dt
 rw[List.countP_append,List.countP_cons_of_pos hs]
 have h3: ((Cb b (xk n)).ents.take (F4 (Cb b (xk n)).ents (xk n))).countP (Tj (n+1))+((Cb b (xk n)).ents.drop (F4 (Cb b (xk n)).ents (xk n))).countP (Tj (n+1))=(Cb b (xk n)).ents.countP (Tj (n+1)):=by
  rw[←List.countP_append,List.take_append_drop]
 have h4: (Cb b (xk n)).ents.countP (Tj n)≤(Cb b (xk n)).ents.countP (Tj (n+1)):=List.countP_mono_left fun e _ h=>Bpi h
 have h5: (Cb b (xk n)).ents.countP (Tj n)=b.ents.countP (Tj n):=by
  unfold Cb
  split
  ·rename_i hh
   refine Bjp _ _ _ (J8 hh) ?_
   unfold Fg at hh
   simp only[Bool.and_eq_true,decide_eq_true_eq] at hh
   cases hse:Tj n (b.ents.getD (F4 b.ents (xk n)) default) with
   |false=>rfl
   |true=>exact absurd hh.2 ((X0 _ _).1 hse n (Nat.le_refl _) h2)
  ·rfl
 omega
def XI (H:Hp) (r:Nat) (bs:List Int) (A:Ev.Obj) (q:Int) (j:Nat) (e:Env) (X:Hp):Prop:=
 ∃ (b:Ba) (c:V) (n:Nat),BaG b∧Bl1 c b∧X=rh H r bs q [A, .row 0 2 [c]]∧e.get 2= .ptr (Bc H) 0 0 0∧e.get 3= .ptr (Bc H+1) 0 0 0∧e.get 6= .d (.int .i64 n)∧n+j=22∧10≤n∧n - 10≤b.ents.countP (Tj n)
def XE (H:Hp) (r:Nat) (bs:List Int) (A:Ev.Obj) (q:Int) (o:Out) (e:Env) (X:Hp):Prop:=
 o= .exit 2∧∃ (b:Ba) (c:V),BaG b∧Bl1 c b∧X=rh H r bs q [A, .row 0 2 [c]]∧e.get 2= .ptr (Bc H) 0 0 0∧e.get 3= .ptr (Bc H+1) 0 0 0
theorem B13 (H:Hp) (r:Nat) (bs:List Int) (A:Ev.Obj) (q:Int) (j:Nat) (e:Env) (X:Hp) (hI:XI H r bs A q j e X):
  Gives (XE H r bs A q) (Bg (Bp (ev R) R.glob (Bc H) Bg Bdi) [2,3,6] ⟨e,X⟩):=by
 refine Bbq (F:=Bp (ev R) R.glob (Bc H) Bg Bdi) (lv:=[2,3,6]) (XI H r bs A q) (XE H r bs A q) ?_ j e X hI
 show ∀n e X,XI H r bs A q n e X→Gives (X9 (Nxt (XI H r bs A q) n) (XE H r bs A q)) _
 rintro j e X ⟨b,c,n,hg,hc,rfl,g2,g3,g6,hn,h10,hcnt⟩
 have hle:=List.countP_le_length (p:=Tj n) (l:=b.ents)
 by_cases hl:b.ents.length<12
 ·have hj:0<j:=by omega
  have hl': (b.ents.length:Int)<12:=by omega
  have p1:=Bwp (n:Int) (by omega)
  have he:EnQ ⟨xk n,0,1,[],[],[],[]⟩:=Yk (Bu6 n h10 (by omega))
  have p2:=B5d b ⟨xk n,0,1,[],[],[],[]⟩ hg.sm he.sm he.fit
  have hpg:=Bm4 hg ⟨xk n,0,1,[],[],[],[]⟩
  have hpm:=Bse n h10 (by omega) hl
  have dl:=he.key
  dsimp only at dl
  have sr:1+(Qu n).length≤Kn:=by unfold xk at dl;rw[List.length_cons] at dl;unfold Kn;omega
  have w:IntKind.i64.wrap ((n:Int)+1)=(n:Int)+1:=IntWalk.i64_in _ (by omega)
  unfold xk at p2 hpg hpm
  generalize Ls b ⟨120::Qu n,0,1,[],[],[],[]⟩=P at*
  obtain⟨b1,ok⟩:=P
  dsimp only at*
  rcases hc with rfl| ⟨rfl,hz⟩
  ·simp(maxSteps:=1000000) [Ce,D8,Gi,Gc,Fj,Gj,Fp,Fq,Dv,Gh,Fh,J2,-List.getD_eq_getElem?_getD,-List.map_map,Bdi,g2,g3,g6,hl',hl,p1,p2,sr,w]
   exact⟨j - 1,by omega,b1,_,n+1,hpg, .inl rfl,rfl,rfl,rfl,rfl,by omega,by omega,by omega⟩
  ·obtain⟨now,ents⟩:=b
   dsimp only at hz
   subst hz
   simp(maxSteps:=1000000) [Ce,D8,Gi,Gc,Fj,Gj,Fp,Fq,Dv,Gh,Fh,J2,-List.getD_eq_getElem?_getD,-List.map_map,Bdi,g2,g3,g6,p1,p2,sr,w,Fx]
   exact⟨j - 1,by omega,b1,_,n+1,hpg, .inl rfl,rfl,rfl,rfl,rfl,by omega,by omega,by omega⟩
 ·have hl': ¬ (b.ents.length:Int)<12:=by omega
  rcases hc with rfl| ⟨rfl,hz⟩
  ·simp(maxSteps:=1000000) [Ce,D8,Gi,Gc,Fj,Gj,Fp,Fq,Dv,Gh,Fh,J2,-List.getD_eq_getElem?_getD,-List.map_map,Bdi,g2,g3,g6,hl',hl]
   exact⟨rfl,b,_,hg, .inl rfl,rfl,rfl,rfl⟩
  ·rw[hz] at hl
   simp at hl
theorem B6a (H:Hp) (r:Nat) (bs:List Int) (p:Int) (h:Cf H r=some (rd bs p)) (hb:Dk bs) (hp:0≤p) (hp2:p≤10000000):
  ∃ (b:Ba) (q:Int),ev R 42 [.ptr r 0 0 0] H=some (.d (Df b),Bz H r (rd bs q))∧BaG b∧p≤q∧q≤p+600:=by
 have hr:=D6 h
 have hH:=Bst H r bs h
 have o1:=fun l=>Bk7 (H:=H) (l:=l) (r:=r) (bs:=bs) (q:=p) [0,0,10,1000000] hr hb hp (by omega) (by simp) (by simp)
 have om:=Bbz bs p [0,0,10,1000000] hb hp (by omega) (by simp)
 generalize Bhg bs p [0,0,10,1000000]=now at*
 simp only[Bru,List.map_cons,List.map_nil] at o1
 have hnow:0≤now∧now≤1000000:=by
  simp only[List.mem_cons,List.not_mem_nil,or_false] at om
  omega
 have p14:=fun l=>Mm (H:=H) (l:=l) (r:=r) (bs:=bs) (q:=p+1) 14 hr hb (by omega) (by omega)
 obtain⟨k0,k1⟩:=Jj bs (p+1) 14 hb (by omega) (by omega)
 have k1:=k1 (by omega)
 generalize Dc bs (p+1) 14=k at*
 obtain⟨k,rfl⟩:=Int.eq_ofNat_of_zero_le k0
 obtain⟨o,e',X',he,rfl,b,c,q,hg,hc,rfl,g0,g2,g3,q1,q2⟩:=(B6k H r bs (.row 0 2 [.agg [.d (.int .i64 0), .nils 7]]) (p+1+1) hr hb (by omega) (by omega) k
  [(0, .ptr r 0 0 0),(2, .ptr (Bc H) 0 0 0),(3, .ptr (Bc H+1) 0 0 0),(4, .d (.int .i64 k))] (rh H r bs (p+1+1) [.row 0 2 [.agg [.d (.int .i64 0), .nils 7]], .row 0 2 [.agg [.d (.int .i64 now), .nils 7]]])
  ⟨⟨now,[]⟩,_,p+1+1,⟨by simp,by simp,by dsimp only;omega⟩, .inr ⟨rfl,rfl⟩,rfl,rfl,rfl,rfl,rfl,by omega,by omega,by omega⟩).out
 have p30:=fun l=>Mm (H:=H) (l:=l) (r:=r) (bs:=bs) (q:=q) 30 hr hb (by omega) (by omega)
 by_cases f:Dc bs q 30=0
 ·obtain⟨o2,e2,X2,he2,rfl,b2,c2,hg2,hc2,rfl,m2,m3⟩:=(B13 H r bs (.row 0 2 [.agg [.d (.int .i64 0), .nils 7]]) (q+1) 12
   [(2, .ptr (Bc H) 0 0 0),(3, .ptr (Bc H+1) 0 0 0),(6, .d (.int .i64 10))] (rh H r bs (q+1) [.row 0 2 [.agg [.d (.int .i64 0), .nils 7]], .row 0 2 [c]])
   ⟨b,c,10,hg,hc,rfl,rfl,rfl,rfl,by omega,by omega,by omega⟩).out
  refine⟨b2,q+1, ?_,hg2,by omega,by omega⟩
  conv=>lhs;rw[hH]
  refine Bh (fn:=f42) rfl rfl ?_
  rcases hc2 with rfl| ⟨rfl,hz⟩
  ·simp(maxSteps:=1000000) [Ce,D8,Gi,Gc,Fj,Gj,Fp,Fq,Dv,Gh,Fh,J2,-List.getD_eq_getElem?_getD,-List.map_map,f42,o1,p14,he,g0,g2,g3,p30,f,he2,m2,m3]
  ·obtain⟨now2,ents⟩:=b2
   dsimp only at hz
   subst hz
   simp(maxSteps:=1000000) [Ce,D8,Gi,Gc,Fj,Gj,Fp,Fq,Dv,Gh,Fh,J2,-List.getD_eq_getElem?_getD,-List.map_map,f42,o1,p14,he,g0,g2,g3,p30,f,he2,m2,m3,Fx]
 ·refine⟨b,q+1, ?_,hg,by omega,by omega⟩
  conv=>lhs;rw[hH]
  refine Bh (fn:=f42) rfl rfl ?_
  rcases hc with rfl| ⟨rfl,hz⟩
  ·simp(maxSteps:=1000000) [Ce,D8,Gi,Gc,Fj,Gj,Fp,Fq,Dv,Gh,Fh,J2,-List.getD_eq_getElem?_getD,-List.map_map,f42,o1,p14,he,g0,g2,g3,p30,f]
  ·obtain⟨now2,ents⟩:=b
   dsimp only at hz
   subst hz
   simp(maxSteps:=1000000) [Ce,D8,Gi,Gc,Fj,Gj,Fp,Fq,Dv,Gh,Fh,J2,-List.getD_eq_getElem?_getD,-List.map_map,f42,o1,p14,he,g0,g2,g3,p30,f,Fx]
structure BaL (b:Ba):Prop where
 len:b.ents.length≤13
 each: ∀e∈b.ents,EnQ e
 now: -1≤b.now∧b.now≤2000000
theorem BaL.sm {b:Ba} (h:BaL b):BaSm b:=⟨by have:=h.len;omega,fun e he=> (h.each e he).sm⟩
theorem BaL.fit {b:Ba} (h:BaL b):BaFit b:=⟨by have:=h.now;exact⟨by omega,by omega⟩,by have:=h.len;omega,fun e he=> (h.each e he).fit⟩
theorem BaG.l {b:Ba} (h:BaG b):BaL b:=⟨by have:=h.len;omega,fun e he=>Yk (h.each e he),by have:=h.now;omega⟩
theorem Bnu (n:Int) (e:En):D.agg [.int .i64 n, .vals 7 [Fy e]]=Df ⟨n,[e]⟩:=rfl
theorem Bri (e:En) (z:Int):D.agg [.str e.key, .int .i64 e.till, .int .i64 z, .str e.text, .vals 1 (e.list.map D.str),De e.scores,Ff e.fields]=Fy ⟨e.key,e.till,z,e.text,e.list,e.scores,e.fields⟩:=rfl
def B01 (H:Hp) (r:Nat) (bs:List Int) (p:Int):Prop:=
 ∃ (b:Ba) (q:Int),ev R 21 [.ptr r 0 0 0] H=some (.d (Df b),Bz H r (rd bs q))∧BaL b∧p≤q∧q≤p+700
theorem B59 (H:Hp) (r:Nat) (bs:List Int) (p:Int) (h:Cf H r=some (rd bs p)) (hb:Dk bs) (hp:0≤p) (hp2:p≤10000000):B01 H r bs p:=by
 have hr:=D6 h
 have hH:=Bst H r bs h
 have bl: ∀l,∃ (b:Ba) (q:Int),ev R 42 [.ptr r 0 0 0] (rh H r bs p l)=some (.d (Df b),Bz (rh H r bs p l) r (rd bs q))∧BaG b∧p≤q∧q≤p+600:=fun l=>B6a _ r bs p (Bia H l r bs p hr) hb hp hp2
 obtain⟨⟨now,es⟩,q,e0,hg,q1,q2⟩:=bl [.row 0 2 [.agg [.d (.int .i64 0), .nils 7]]]
 rw[Bfy H _ r bs p hr] at e0
 clear bl
 have p16:=fun l=>Mm (H:=H) (l:=l) (r:=r) (bs:=bs) (q:=q) 16 hr hb (by omega) (by omega)
 have hL:=hg.l
 by_cases hes:es=[]
 ·subst hes
  have p0: ∀X,ev R 41 [.d (Df ⟨now,[]⟩)] X=some (.agg [.d (.int .i64 now), .nils 7],X):=fun X=>Bn8 ⟨now,[]⟩ hg.sm.len hg.sm.each X
  by_cases c0:Dc bs q 16=0
  ·have o1:=fun l=>Bk7 (H:=H) (l:=l) (r:=r) (bs:=bs) (q:=q+1) [-1,1000001,50] hr hb (by omega) (by omega) (by simp) (by simp)
   have om:=Bbz bs (q+1) [-1,1000001,50] hb (by omega) (by omega) (by simp)
   generalize Bhg bs (q+1) [-1,1000001,50]=z at*
   simp only[Bru,List.map_cons,List.map_nil] at o1
   refine⟨⟨z,[]⟩,q+1+1, ?_,⟨by simp,by simp,by simp only[List.mem_cons,List.not_mem_nil,or_false] at om;dsimp only;omega⟩,by omega,by omega⟩
   conv=>lhs;rw[hH]
   refine Bh (fn:=f21) rfl rfl ?_
   simp(maxSteps:=1000000) [Ce,D8,Gi,Gc,Fj,Gj,Fp,Fq,Dv,Gh,Fh,J2,-List.getD_eq_getElem?_getD,-List.map_map,f21,e0,p0,p16,c0,o1,Fx]
  by_cases c1:Dc bs q 16=1
  ·refine⟨⟨now,[]⟩,q+1, ?_,hL,by omega,by omega⟩
   conv=>lhs;rw[hH]
   refine Bh (fn:=f21) rfl rfl ?_
   simp(maxSteps:=1000000) [Ce,D8,Gi,Gc,Fj,Gj,Fp,Fq,Dv,Gh,Fh,J2,-List.getD_eq_getElem?_getD,-List.map_map,f21,e0,p0,p16,c1,Fx]
  by_cases c2:Dc bs q 16=2
  ·have o1:=fun l=>By1 (H:=H) (l:=l) (r:=r) (bs:=bs) (q:=q+1) [[],[122,122],[97]] hr hb (by omega) (by omega) (by simp)
   have om:=Bai bs (q+1) [[],[122,122],[97]] 40 (by simp)
   generalize ofV bs (q+1) [[],[122,122],[97]]=z at*
   simp only[Bf,List.map_cons,List.map_nil] at o1
   have eq:EnQ ⟨z,0,1,[],[],[],[]⟩:=⟨by dsimp only;omega,by simp,by simp,by simp,by simp,by simp,by simp,by simp,by simp,by simp⟩
   refine⟨⟨now,[⟨z,0,1,[],[],[],[]⟩]⟩,q+1+1, ?_,⟨by simp,by simpa using eq,hL.now⟩,by omega,by omega⟩
   conv=>lhs;rw[hH]
   refine Bh (fn:=f21) rfl rfl ?_
   have rm: (120:Nat)≤Cq:=by unfold Cq;omega
   simp(maxSteps:=1000000) [Ce,D8,Gi,Gc,Fj,Gj,Fp,Fq,Dv,Gh,Fh,J2,-List.getD_eq_getElem?_getD,-List.map_map,f21,e0,p0,p16,c2,o1,Bnu,rm]
  ·refine⟨⟨now,[]⟩,q+1, ?_,hL,by omega,by omega⟩
   conv=>lhs;rw[hH]
   refine Bh (fn:=f21) rfl rfl ?_
   simp(maxSteps:=1000000) [Ce,D8,Gi,Gc,Fj,Gj,Fp,Fq,Dv,Gh,Fh,J2,-List.getD_eq_getElem?_getD,-List.map_map,f21,e0,p0,p16,eq_false c0,eq_false c1,eq_false c2,Fx]
 ·have p0: ∀X,ev R 41 [.d (Df ⟨now,es⟩)] X=some (.agg [.d (.int .i64 now), .slc (Bc X) 0 0 es.length],ap X [.row 0 7 ((es.map Fy).map V.d)]):=fun X=>by
   rw[Bn8 ⟨now,es⟩ hg.sm.len hg.sm.each X]
   cases es with
   |nil=>exact absurd rfl hes
   |cons z r=>rfl
  have hl:=hg.len
  dsimp only at hl
  have l0:0<es.length:=List.length_pos_iff.2 hes
  have l1: (0:Int)< (es.length:Int):=by omega
  have ft:List.take es.length ((es.map Fy).map V.d)=(es.map Fy).map V.d:=List.take_of_length_le (by simp)
  by_cases c0:Dc bs q 16=0
  ·have o1:=fun l=>Bk7 (H:=H) (l:=l) (r:=r) (bs:=bs) (q:=q+1) [-1,1000001,50] hr hb (by omega) (by omega) (by simp) (by simp)
   have om:=Bbz bs (q+1) [-1,1000001,50] hb (by omega) (by omega) (by simp)
   generalize Bhg bs (q+1) [-1,1000001,50]=z at*
   simp only[Bru,List.map_cons,List.map_nil] at o1
   refine⟨⟨z,es⟩,q+1+1, ?_,⟨hL.len,hL.each,by simp only[List.mem_cons,List.not_mem_nil,or_false] at om;dsimp only;omega⟩,by omega,by omega⟩
   conv=>lhs;rw[hH]
   refine Bh (fn:=f21) rfl rfl ?_
   simp(maxSteps:=1000000) [Ce,D8,Gi,Gc,Fj,Gj,Fp,Fq,Dv,Gh,Fh,J2,-List.getD_eq_getElem?_getD,-List.map_map,f21,e0,p0,p16,c0,o1,ft]
  by_cases c1:Dc bs q 16=1
  ·have o1:=fun l=>Mm (H:=H) (l:=l) (r:=r) (bs:=bs) (q:=q+1) es.length hr hb (by omega) (by omega)
   have o2:=fun l=>Mm (H:=H) (l:=l) (r:=r) (bs:=bs) (q:=q+1+1) 7 hr hb (by omega) (by omega)
   obtain⟨k0,k1⟩:=Jj bs (q+1) es.length hb (by omega) (by omega)
   obtain⟨k2,k3⟩:=Jj bs (q+1+1) 7 hb (by omega) (by omega)
   have k1:=k1 (by omega)
   have k3:=k3 (by omega)
   generalize Dc bs (q+1) es.length=i at*
   generalize Dc bs (q+1+1) 7=kd at*
   obtain⟨i,rfl⟩:=Int.eq_ofNat_of_zero_le k0
   have hi:i<es.length:=by omega
   have hm:es[i]∈es:=List.getElem_mem hi
   have hq:=hL.each _ hm
   obtain⟨E,g⟩: ∃E,es[i]=E:=⟨_,rfl⟩
   rw[g] at hm hq
   have sf:=Bcp Fy es i ⟨E.key,E.till,kd,E.text,E.list,E.scores,E.fields⟩
   have sl: (es.set i ⟨E.key,E.till,kd,E.text,E.list,E.scores,E.fields⟩).length=es.length:=List.length_set
   have ee:EnQ ⟨E.key,E.till,kd,E.text,E.list,E.scores,E.fields⟩:=⟨hq.key,hq.text,hq.list,hq.lists,hq.scores,hq.scoress,hq.fields,hq.fieldss,hq.till,by dsimp only;omega⟩
   have em: ∀e∈es.set i ⟨E.key,E.till,kd,E.text,E.list,E.scores,E.fields⟩,EnQ e:=fun e he=>by
    rcases List.mem_or_eq_of_mem_set he with h1|h1
    ·exact hL.each e h1
    ·rw[h1];exact ee
   generalize es.set i ⟨E.key,E.till,kd,E.text,E.list,E.scores,E.fields⟩=ES at*
   have ft2:List.take es.length ((ES.map Fy).map V.d)=(ES.map Fy).map V.d:=List.take_of_length_le (by simp[sl])
   refine⟨⟨now,ES⟩,q+1+1+1, ?_,⟨by dsimp only;omega,em,hL.now⟩,by omega,by omega⟩
   conv=>lhs;rw[hH]
   refine Bh (fn:=f21) rfl rfl ?_
   simp(maxSteps:=1000000) [Ce,D8,Gi,Gc,Fj,Gj,Fp,Fq,Dv,Gh,Fh,J2,-List.getD_eq_getElem?_getD,-List.map_map,f21,e0,p0,p16,c1,o1,o2,l0,l1,hi,k1,g,sf,sl,ft2,Bri]
  by_cases c2:Dc bs q 16=2
  ·have o1:=fun l=>By1 (H:=H) (l:=l) (r:=r) (bs:=bs) (q:=q+1) [[],[122,122],[97]] hr hb (by omega) (by omega) (by simp)
   have om:=Bai bs (q+1) [[],[122,122],[97]] 40 (by simp)
   generalize ofV bs (q+1) [[],[122,122],[97]]=z at*
   simp only[Bf,List.map_cons,List.map_nil] at o1
   have eq:EnQ ⟨z,0,1,[],[],[],[]⟩:=⟨by dsimp only;omega,by simp,by simp,by simp,by simp,by simp,by simp,by simp,by simp,by simp⟩
   obtain⟨ES,hES⟩: ∃ES,ES=es++[(⟨z,0,1,[],[],[],[]⟩:En)]:=⟨_,rfl⟩
   have sf:List.map V.d (List.map Fy es)++[V.d (Fy ⟨z,0,1,[],[],[],[]⟩)]=List.map V.d (List.map Fy ES):=by rw[hES];simp
   have sl:ES.length=es.length+1:=by rw[hES];simp
   have em: ∀e∈ES,EnQ e:=fun e he=>by
    rw[hES] at he
    simp only[List.mem_append,List.mem_singleton] at he
    rcases he with h1|h1
    ·exact hL.each e h1
    ·rw[h1];exact eq
   refine⟨⟨now,ES⟩,q+1+1, ?_,⟨by dsimp only;omega,em,hL.now⟩,by omega,by omega⟩
   conv=>lhs;rw[hH]
   refine Bh (fn:=f21) rfl rfl ?_
   have rm: (es.length+1)*120≤Cq:=by unfold Cq;omega
   have ft2:List.take (es.length+1) ((ES.map Fy).map V.d)=(ES.map Fy).map V.d:=List.take_of_length_le (by simp[sl])
   simp(maxSteps:=1000000) [Ce,D8,Gi,Gc,Fj,Gj,Fp,Fq,Dv,Gh,Fh,J2,-List.getD_eq_getElem?_getD,-List.map_map,f21,e0,p0,p16,c2,o1,rm,sf,sl,ft2]
  ·refine⟨⟨now,es⟩,q+1, ?_,hL,by omega,by omega⟩
   conv=>lhs;rw[hH]
   refine Bh (fn:=f21) rfl rfl ?_
   simp(maxSteps:=1000000) [Ce,D8,Gi,Gc,Fj,Gj,Fp,Fq,Dv,Gh,Fh,J2,-List.getD_eq_getElem?_getD,-List.map_map,f21,e0,p0,p16,eq_false c0,eq_false c1,eq_false c2,ft]
theorem Bay {e:En} (h:M8 e=true):Gn e=false:=by
 unfold M8 at h
 simp only[Bool.and_eq_true,decide_eq_true_eq] at h
 obtain⟨⟨h1,h2⟩,h3⟩:=h
 have a1:e.list=[]:=List.eq_nil_of_length_eq_zero (by omega)
 have a2:e.scores=[]:=List.eq_nil_of_length_eq_zero (by omega)
 have a3:e.fields=[]:=List.eq_nil_of_length_eq_zero (by omega)
 unfold Gn Lm
 rw[if_neg h1,a1,a2,a3,h2]
 simp
theorem Mh {b:Ba} (h:BaO b) {t:Bq} (hk:Fg b.ents t=true): (Bw b t).key=t∧Bw b t∈b.ents∧Ls (Cb b t) (Bw b t)=(b,true):=by
 have hl:=J8 hk
 have hm:b.ents.getD (F4 b.ents t) default∈b.ents:=Gr hl
 have hkey: (b.ents.getD (F4 b.ents t) default).key=t:=by
  have hk2:=hk
  unfold Fg at hk2
  rw[Bool.and_eq_true] at hk2
  exact of_decide_eq_true hk2.2
 have hg:Bw b t=b.ents.getD (F4 b.ents t) default:=by unfold Bw;rw[if_pos hk]
 have hdl:b.ents.drop (F4 b.ents t)=b.ents.getD (F4 b.ents t) default::b.ents.drop (F4 b.ents t+1):=by
  rw[List.drop_eq_getElem_cons hl]
  simp[List.getD_eq_getElem?_getD,hl]
 rw[hg]
 obtain⟨he,hfr⟩:=h.each _ hm
 generalize b.ents.getD (F4 b.ents t) default=e at*
 refine⟨hkey,hm, ?_⟩
 have hn:=Sz h t
 have hdd:Cb (Cb b t) e.key=Cb b t:=by
  show(if Fg (Cb b t).ents e.key=true then _ else Cb b t)=Cb b t
  rw[hkey,hn];rfl
 have Bc: (Cb b t).ents.length+1=b.ents.length:=by
  unfold Cb
  rw[if_pos hk]
  simp only[Md _ _ hl];omega
 have hemp:M8 e=false:=by
  cases hq:M8 e with
  |false=>rfl
  |true=>exact absurd he (by rw[Bay hq];simp)
 have hmay:Mf (Cb b t) e=true:=by
  unfold Mf
  rw[he,hdd,Jy]
  have:=h.len
  have h3: (Cb b t).ents.length<12:=by omega
  rcases hfr with h4|h4
  ·simp[h3,h4]
  ·have: ¬e.till≤b.now:=by omega
   simp[h3,this]
 unfold Ls
 rw[hemp,hmay,hdd]
 simp only[Bool.false_eq_true,if_false,if_true,Prod.mk.injEq,and_true]
 have hp:=Qy h.asc t
 have hk2:F4 (Cb b t).ents e.key=F4 b.ents t:=by
  rw[hkey]
  unfold Cb
  rw[if_pos hk]
  have ha:=h.asc.sublist (List.drop_sublist (F4 b.ents t) b.ents)
  rw[hdl] at ha
  show(List.takeWhile _ (b.ents.take (F4 b.ents t)++b.ents.drop (F4 b.ents t+1))).length=_
  rw[List.takeWhile_append_of_pos (fun x hx=>hp.1 x hx),List.length_append,List.length_take]
  have:List.takeWhile (fun e:En=>Op.bytesLess e.key t) (b.ents.drop (F4 b.ents t+1))=[]:=by
   cases hd:b.ents.drop (F4 b.ents t+1) with
   |nil=>rfl
   |cons y r=>
    have hy:=List.rel_of_pairwise_cons ha (show y∈b.ents.drop (F4 b.ents t+1) by rw[hd];simp)
    rw[List.takeWhile_cons]
    cases hq:Op.bytesLess y.key t with
    |false=>rfl
    |true=>have:=Pj hy hq;rw[hkey,G8] at this;simp at this
  rw[this,List.length_nil];omega
 rw[hk2,Jy]
 unfold Cb
 rw[if_pos hk]
 simp only[Gw,Dt]
 have hlt: (b.ents.take (F4 b.ents t)).length=F4 b.ents t:=by rw[List.length_take];omega
 have l1: (b.ents.take (F4 b.ents t)++b.ents.drop (F4 b.ents t+1)).take (F4 b.ents t)=b.ents.take (F4 b.ents t):=by
  rw[List.take_append_of_le_length (by omega),List.take_of_length_le (by omega)]
 have l2: (b.ents.take (F4 b.ents t)++b.ents.drop (F4 b.ents t+1)).drop (F4 b.ents t)=b.ents.drop (F4 b.ents t+1):=by
  rw[List.drop_append_of_le_length (by omega),List.drop_of_length_le (by omega),List.nil_append]
 rw[l1,l2,←hdl,List.take_append_drop]
def Us:List Bq:=[[107],[108],[115],[122],[104],[107,50],[108]]
theorem Bwh (bs:List Int) (q:Int) (ns:List Bq) (hb:Dk bs) (h0:0≤q) (h1:q≤1000000000000) (hn:0<ns.length):ofV bs q ns∈ns:=by
 unfold ofV
 have:=Jj bs q ns.length hb h0 h1
 have h2:=this.2 (by omega)
 have hi: (Dc bs q ns.length).toNat<ns.length:=by omega
 rw[List.getD_eq_getElem?_getD,List.getElem?_eq_getElem hi]
 exact List.getElem_mem hi
theorem B2d (H:Hp) (r:Nat) (bs:List Int) (q q':Int) {o:Ev.Obj} (h:Cf H r=some o) (hb:Dk bs) (hq:0≤q) (hq2:q≤100000000000) (hq':q'=q+1):
  ∃t:Bq,t∈Us∧ev R 22 [.ptr r 0 0 0] (Bz H r (rd bs q))=some (.d (.str t),Bz H r (rd bs q')):=by
 subst hq'
 have e:=Bvw (Bz H r (rd bs q)) r bs q Us (Co _ (D6 h)) hb hq (by omega) (by simp[Us])
 rw[Ky] at e
 refine⟨_,Bwh bs q Us hb hq (by omega) (by simp[Us]),Bh (fn:=f22) rfl rfl ?_⟩
 generalize ofV bs q Us=t at*
 have hl:=Jq (Bz H r (rd bs (q+1)))
 rw[Br] at hl
 have hl2:=Br H r (rd bs q)
 simp only[Us,Bf,List.map_cons,List.map_nil] at e
 simp[Cn,-List.getD_eq_getElem?_getD,-List.map_map,f22,e,hl,hl2]
theorem k_7 (H:Hp) (bs:List Int) (h: ∀i,0≤bs.getD i 0∧bs.getD i 0≤255):
  ∃ (b:Ba) (t:Bq),ev R 7 [.d (Sb bs)] H=some (.tup [.d (Df b), .d (.str t)],H)∧BaL b∧t∈Us:=by
 have ho:=Boo bs h
 have o1:=fun H=>B58 H bs
 obtain⟨b,q,e1,hL,q1,q2⟩:=B59 (ap H [.row 0 2 [.agg [.d (.int .i64 0), .nils 7]],rd (Lr bs) 0]) (Bc H+1) (Lr bs) 0 (by rw[L8];rfl) ho (by omega) (by omega)
 rw[Rc] at e1
 obtain⟨t,ht,e2⟩:=B2d (ap H [.row 0 2 [.agg [.d (.int .i64 0), .nils 7]],rd (Lr bs) q]) (Bc H+1) (Lr bs) q (q+1) (o:=rd (Lr bs) q) (by rw[L8];rfl) ho (by omega) (by omega) rfl
 rw[Rc,Rc] at e2
 simp only[Bz] at e1 e2
 refine⟨b,t, ?_,hL,ht⟩
 refine Bh (fn:=f7) rfl rfl ?_
 simp(maxSteps:=1000000) [Ce,-List.getD_eq_getElem?_getD,-List.map_map,f7,o1,e1,e2]
theorem Bwd {t:Bq} (h:t∈Us):1≤t.length∧t.length≤2:=by
 simp only[Us,List.mem_cons,List.not_mem_nil,or_false] at h
 rcases h with rfl|rfl|rfl|rfl|rfl|rfl|rfl<;>decide
end Go.Proofs.YtpajcoanfkeibaaGreatDoor.Code

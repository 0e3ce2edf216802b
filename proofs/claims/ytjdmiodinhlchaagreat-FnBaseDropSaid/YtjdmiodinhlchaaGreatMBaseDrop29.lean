/- Lemmas (several texts in one). -/
import Derived.Test.YtjdmiodinhlchaaGreatMBaseDrop7
import Derived.Test.YtjdmiodinhlchaaGreatMBaseDrop20
import Derived.Test.YtjdmiodinhlchaaGreatMBaseDrop21
import Derived.Test.YtjdmiodinhlchaaGreatMBaseDrop22
import Derived.Test.YtjdmiodinhlchaaGreatMBaseDrop23
import Derived.Test.YtjdmiodinhlchaaGreatMBaseDrop28
set_option maxRecDepth 100000
set_option maxHeartbeats 4000000
set_option linter.unusedSimpArgs false
set_option linter.unusedVariables false
namespace Go.Proofs.YtjdmiodinhlchaaGreat.Code
open Go Go.Ev Go.Proofs
def Nxt (I:Nat→Env→Hp→Prop) (n:Nat) (e:Env) (X:Hp):Prop:=∃m,m<n∧I m e X
def Bgi (c:V) (b:Ba):Prop:=c= .d (Cv b)∨(c= .agg [.d (.int .i64 b.now), .nils 7]∧b.ents=[])
theorem Bqe {b:Ba} (hb:BaG b) (ks:List Bm):BaG (Wv b ks).1:=by
 unfold Wv
 have key: ∀ (n i:Nat) (s:Ba×Nat),BaG s.1→BaG ((List.range' i n).foldl (fun s i=>Q0 ks i s) s).1:=by
  intro n
  induction n with
  |zero=>intro i s h;exact h
  |succ n ih=>intro i s h;rw[List.range'_succ,List.foldl_cons];exact ih _ _ (Bid ks i s h)
 exact key _ _ _ hb
theorem Bjd (b:Ba) (ks:List Bm): (Bfi b ks).1=b:=by
 unfold Bfi
 have key: ∀ (n i:Nat) (s:Ba×Nat),((List.range' i n).foldl (fun s i=>Zl ks i s) s).1=s.1:=by
  intro n
  induction n with
  |zero=>intro i s;rfl
  |succ n ih=>intro i s;rw[List.range'_succ,List.foldl_cons,ih];rfl
 exact key _ _ _
theorem Gf {b:Ba} {c:Prop} [Decidable c] {x y:Ba×Re} (hx:BaG x.1) (hy:BaG y.1):BaG (if c then x else y).1:=by split<;>assumption
theorem Bcl {b:Ba} (hb:BaG b) (k:Bm) (n:Int):BaG (Sl b k n).1:=by
 unfold Sl
 exact Gf (b:=b) hb (Gf (b:=b) (Nz hb k) (Fo hb _ _))
theorem Btn {b:Ba} (hb:BaG b) (w:Bm) (r:List Bm):BaG (Cp b w r).1:=by
 unfold Cp
 repeat' (with_reducible refine Gf (b:=b) ?_ ?_)
 all_goals first
  |exact hb
  | (unfold Wt;exact Gf (b:=b) (Fo hb _ _) hb)
  | (unfold Bjf;exact Fo hb _ _)
  | (unfold Pm;exact Gf (b:=b) hb (Fo hb _ _))
  | (unfold K5;exact Gf (b:=b) hb hb)
  | (unfold N2;exact Gf (b:=b) (Fo hb _ _) hb)
  | (unfold Wx;exact Gf (b:=b) (Fo hb _ _) hb)
  | (unfold Pp;exact Gf (b:=b) hb hb)
  | (unfold Sk;exact Gf (b:=b) (Fo hb _ _) hb)
  | (unfold Yv;exact Gf (b:=b) (Gf (b:=b) (Fo hb _ _) hb) hb)
  | (unfold Yu;exact Gf (b:=b) (Fo hb _ _) hb)
  | (unfold Yw;exact Gf (b:=b) (Fo hb _ _) hb)
  | (unfold Yx;exact Fo hb _ _)
  | (unfold Yy;exact Gf (b:=b) (Gf (b:=b) (Fo hb _ _) hb) hb)
  | (unfold Ml;exact Gf (b:=b) (Gf (b:=b) (Fo hb _ _) hb) hb)
  | (unfold Ps;exact Gf (b:=b) hb hb)
  | (unfold Gi;exact Gf (b:=b) hb hb)
  | (unfold Yz;exact Fo hb _ _)
  | (unfold Yt;exact Gf (b:=b) (Fo hb _ _) hb)
  | (unfold Ys;exact Fo hb _ _)
  | (unfold Mi;exact Gf (b:=b) (Gf (b:=b) (Fo hb _ _) hb) hb)
  | (unfold Mj;exact Fo hb _ _)
  | (unfold Po;exact Gf (b:=b) (Bcl hb _ _) hb)
  | (unfold K4;exact Gf (b:=b) (Bcl hb _ _) hb)
  | (unfold Pq;exact Gf (b:=b) hb (Fo (Nz hb _) _ _))
  | (unfold Bjb;exact Bqe hb _)
  | (unfold Pn;dsimp only;rw[Bjd];exact hb)
  | (unfold Si;exact⟨by simp,by simp,hb.now⟩)
theorem Bx1 {b:Ba} (hb:BaG b) (args:List Bm):BaG (rDo b args).1:=by
 unfold rDo
 exact Gf (b:=b) (Btn hb _ _) hb
def Bgg (H:Hp) (r:Nat) (bs:List Int) (A:Ev.Obj) (q0:Int) (k:Nat) (e:Env) (X:Hp):Prop:=
 ∃ (b:Ba) (c:V) (q:Int),BaG b∧Bgi c b∧X=rh H r bs q [A, .row 0 2 [c]]∧e.get 0= .ptr r 0 0 0∧e.get 2= .ptr (Bc H) 0 0 0∧e.get 3= .ptr (Bc H+1) 0 0 0∧e.get 4= .d (.int .i64 k)∧q0≤q∧q≤q0+30*(14 - k)∧k≤14
def Bkn (H:Hp) (r:Nat) (bs:List Int) (A:Ev.Obj) (q0:Int) (o:Out) (e:Env) (X:Hp):Prop:=
 o= .exit 0∧∃ (b:Ba) (c:V) (q:Int),BaG b∧Bgi c b∧X=rh H r bs q [A, .row 0 2 [c]]∧e.get 0= .ptr r 0 0 0∧e.get 2= .ptr (Bc H) 0 0 0∧e.get 3= .ptr (Bc H+1) 0 0 0∧q0≤q∧q≤q0+500
theorem Bix {ts:List Bm} (h1:1≤ts.length) (h8:ts.length≤8) (hs: ∀x∈ts,x.length≤40):Le ts=true:=(Qk ts).2 ⟨hs,h1,h8⟩
theorem By3 (H:Hp) (r:Nat) (bs:List Int) (A:Ev.Obj) (q0:Int) (hr:r<Bc H) (hb:Cz bs) (h0:0≤q0) (h1:q0≤100000000) (k:Nat) (e:Env) (X:Hp) (hI:Bgg H r bs A q0 k e X):
  Gives (Bkn H r bs A q0) (Bg (Bo (ev R) R.glob (Bc H) Bg Lb) [0,2,3,4] ⟨e,X⟩):=by
 refine Wd (F:=Bo (ev R) R.glob (Bc H) Bg Lb) (lv:=[0,2,3,4]) (Bgg H r bs A q0) (Bkn H r bs A q0) ?_ k e X hI
 show ∀n e X,Bgg H r bs A q0 n e X→Gives (Ry (Nxt (Bgg H r bs A q0) n) (Bkn H r bs A q0)) _
 rintro n e X ⟨b,c,q,hg,hc,rfl,g0,g2,g3,g4,hq0,hq1,hk⟩
 cases n with
 |zero=>
  simp(maxSteps:=1000000) [Ca,Dd,D7,D3,Dl,D8,Dm,Dn,C7,D6,Dk,Gj,-List.getD_eq_getElem?_getD,-List.map_map,Lb,g0,g2,g3,g4]
  exact⟨rfl,b,c,q,hg,hc,rfl,rfl,rfl,rfl,hq0,by omega⟩
 |succ n=>
  obtain⟨ts,q1,ho,a1,a2,t1,t8,ts40⟩:=Bmr (l:=[A, .row 0 2 [c]]) hr hb (show 0≤q by omega) (show q≤1000000000 by omega)
  simp only[List.length_cons,List.length_nil,List.cons_append,List.nil_append] at ho
  have fz:=fun c'=>Btp H [A, .row 0 2 [c'], .row 0 1 ((ts.map D.str).map V.d)] r bs q1 2 2 0 1 ts.length (ts.map D.str) (by omega) rfl (by simp)
  have hd:=B1g b ts hg (Bix t1 t8 ts40)
  have hdg:=Bx1 hg ts
  have g:=Cw ts 0 (by omega)
  have c0: (0:Int)< (ts.length:Int):=by omega
  have c1:0<ts.length:=by omega
  have cn: (0:Int)< (n:Int)+1:=by omega
  have w:IntKind.i64.wrap ((n:Int)+1 - 1)=(n:Int):=by rw[IntWalk.i64_in _ (by omega)];omega
  have w':IntKind.i64.wrap (n:Int)=(n:Int):=IntWalk.i64_in _ (by omega)
  generalize rDo b ts=P at*
  obtain⟨b1,re⟩:=P
  dsimp only[Bk] at hd hdg
  have pk4:=fun l=>J8 (H:=H) (l:=l) (r:=r) (bs:=bs) (q:=q1) 4 hr hb (by omega) (by omega)
  have pk6:=fun l=>J8 (H:=H) (l:=l) (r:=r) (bs:=bs) (q:=q1) 6 hr hb (by omega) (by omega)
  have pk61:=fun l=>J8 (H:=H) (l:=l) (r:=r) (bs:=bs) (q:=q1+1) 6 hr hb (by omega) (by omega)
  have pk46:=fun l=>J8 (H:=H) (l:=l) (r:=r) (bs:=bs) (q:=q1+1) 4 hr hb (by omega) (by omega)
  have pk461:=fun l=>J8 (H:=H) (l:=l) (r:=r) (bs:=bs) (q:=q1+1+1) 4 hr hb (by omega) (by omega)
  obtain⟨k40,_⟩:=Gg bs (q1+1) 4 hb (by omega) (by omega)
  obtain⟨k41,k42⟩:=Gg bs (q1+1) 4 hb (by omega) (by omega)
  obtain⟨k43,k44⟩:=Gg bs (q1+1+1) 4 hb (by omega) (by omega)
  have k42:=k42 (by omega)
  have k44:=k44 (by omega)
  have tk: ∀ (B:Ba) (hB:BaG B) (z:Int),0≤z→z<4→Be (ev R) 16 [.d (Cv B), .d (.int .i64 z)]=some (.d (Cv (Rv B z))):=fun B hB z z0 z1=>B01 B z hB.sm hB.fit (by have:=hB.now;omega) (by omega)
  have tkb1:=tk b hg _ k41 k42
  have tkb2:=tk b hg _ k43 k44
  have tkc1:=tk b1 hdg _ k41 k42
  have tkc2:=tk b1 hdg _ k43 k44
  have vb1:=T8 hg (Cr bs (q1+1) 4)
  have vb2:=T8 hg (Cr bs (q1+1+1) 4)
  have vc1:=T8 hdg (Cr bs (q1+1) 4)
  have vc2:=T8 hdg (Cr bs (q1+1+1) 4)
  clear tk k40
  generalize Rv b (Cr bs (q1+1) 4)=B1 at*
  generalize Rv b (Cr bs (q1+1+1) 4)=B2 at*
  generalize Rv b1 (Cr bs (q1+1) 4)=C1 at*
  generalize Rv b1 (Cr bs (q1+1+1) 4)=C2 at*
  by_cases f:ts.getD 0 []=[70,76,85,83,72]
  ·by_cases f4:Cr bs q1 4=0
   ·by_cases f6:Cr bs (q1+1) 6=0
    ·rcases hc with rfl| ⟨rfl,hn⟩
     ·simp(maxSteps:=1000000) [Ca,Dd,D7,D3,Dl,D8,Dm,Dn,C7,D6,Dk,Gj,-List.getD_eq_getElem?_getD,-List.map_map,Lb,g0,g2,g3,g4,ho,fz,hd,g,c0,c1,cn,w,w',eq_true f,pk4,pk61,pk461,f4,f6,tkc2]
      exact⟨n,by omega,C2,_,q1+1+1+1,vc2, .inl rfl,rfl,rfl,rfl,rfl,rfl,by omega,by omega,by omega⟩
     ·obtain⟨now,ents⟩:=b
      dsimp only at hn
      subst hn
      simp(maxSteps:=1000000) [Ca,Dd,D7,D3,Dl,D8,Dm,Dn,C7,D6,Dk,Gj,-List.getD_eq_getElem?_getD,-List.map_map,Lb,g0,g2,g3,g4,ho,fz,hd,g,c0,c1,cn,w,w',eq_true f,pk4,pk61,pk461,f4,f6,tkc2,Dr]
      exact⟨n,by omega,C2,_,q1+1+1+1,vc2, .inl rfl,rfl,rfl,rfl,rfl,rfl,by omega,by omega,by omega⟩
    ·rcases hc with rfl| ⟨rfl,hn⟩
     ·simp(maxSteps:=1000000) [Ca,Dd,D7,D3,Dl,D8,Dm,Dn,C7,D6,Dk,Gj,-List.getD_eq_getElem?_getD,-List.map_map,Lb,g0,g2,g3,g4,ho,fz,hd,g,c0,c1,cn,w,w',eq_true f,pk4,pk61,f4,f6]
      exact⟨n,by omega,b1,_,q1+1+1,hdg, .inl rfl,rfl,rfl,rfl,rfl,rfl,by omega,by omega,by omega⟩
     ·obtain⟨now,ents⟩:=b
      dsimp only at hn
      subst hn
      simp(maxSteps:=1000000) [Ca,Dd,D7,D3,Dl,D8,Dm,Dn,C7,D6,Dk,Gj,-List.getD_eq_getElem?_getD,-List.map_map,Lb,g0,g2,g3,g4,ho,fz,hd,g,c0,c1,cn,w,w',eq_true f,pk4,pk61,f4,f6,Dr]
      exact⟨n,by omega,b1,_,q1+1+1,hdg, .inl rfl,rfl,rfl,rfl,rfl,rfl,by omega,by omega,by omega⟩
   ·by_cases f6:Cr bs (q1+1) 6=0
    ·rcases hc with rfl| ⟨rfl,hn⟩
     ·simp(maxSteps:=1000000) [Ca,Dd,D7,D3,Dl,D8,Dm,Dn,C7,D6,Dk,Gj,-List.getD_eq_getElem?_getD,-List.map_map,Lb,g0,g2,g3,g4,ho,fz,g,c0,c1,cn,w,w',eq_true f,pk4,pk61,pk461,f4,f6,tkb2]
      exact⟨n,by omega,B2,_,q1+1+1+1,vb2, .inl rfl,rfl,rfl,rfl,rfl,rfl,by omega,by omega,by omega⟩
     ·obtain⟨now,ents⟩:=b
      dsimp only at hn
      subst hn
      simp(maxSteps:=1000000) [Ca,Dd,D7,D3,Dl,D8,Dm,Dn,C7,D6,Dk,Gj,-List.getD_eq_getElem?_getD,-List.map_map,Lb,g0,g2,g3,g4,ho,fz,g,c0,c1,cn,w,w',eq_true f,pk4,pk61,pk461,f4,f6,tkb2,Dr]
      exact⟨n,by omega,B2,_,q1+1+1+1,vb2, .inl rfl,rfl,rfl,rfl,rfl,rfl,by omega,by omega,by omega⟩
    ·simp(maxSteps:=1000000) [Ca,Dd,D7,D3,Dl,D8,Dm,Dn,C7,D6,Dk,Gj,-List.getD_eq_getElem?_getD,-List.map_map,Lb,g0,g2,g3,g4,ho,fz,g,c0,c1,cn,w,w',eq_true f,pk4,pk61,f4,f6]
     exact⟨n,by omega,b,c,q1+1+1,hg,hc,rfl,rfl,rfl,rfl,rfl,by omega,by omega,by omega⟩
  ·by_cases f6:Cr bs q1 6=0
   ·rcases hc with rfl| ⟨rfl,hn⟩
    ·simp(maxSteps:=1000000) [Ca,Dd,D7,D3,Dl,D8,Dm,Dn,C7,D6,Dk,Gj,-List.getD_eq_getElem?_getD,-List.map_map,Lb,g0,g2,g3,g4,ho,fz,hd,g,c0,c1,cn,w,w',eq_false f,pk6,pk46,f6,tkc1]
     exact⟨n,by omega,C1,_,q1+1+1,vc1, .inl rfl,rfl,rfl,rfl,rfl,rfl,by omega,by omega,by omega⟩
    ·obtain⟨now,ents⟩:=b
     dsimp only at hn
     subst hn
     simp(maxSteps:=1000000) [Ca,Dd,D7,D3,Dl,D8,Dm,Dn,C7,D6,Dk,Gj,-List.getD_eq_getElem?_getD,-List.map_map,Lb,g0,g2,g3,g4,ho,fz,hd,g,c0,c1,cn,w,w',eq_false f,pk6,pk46,f6,tkc1,Dr]
     exact⟨n,by omega,C1,_,q1+1+1,vc1, .inl rfl,rfl,rfl,rfl,rfl,rfl,by omega,by omega,by omega⟩
   ·rcases hc with rfl| ⟨rfl,hn⟩
    ·simp(maxSteps:=1000000) [Ca,Dd,D7,D3,Dl,D8,Dm,Dn,C7,D6,Dk,Gj,-List.getD_eq_getElem?_getD,-List.map_map,Lb,g0,g2,g3,g4,ho,fz,hd,g,c0,c1,cn,w,w',eq_false f,pk6,f6]
     exact⟨n,by omega,b1,_,q1+1,hdg, .inl rfl,rfl,rfl,rfl,rfl,rfl,by omega,by omega,by omega⟩
    ·obtain⟨now,ents⟩:=b
     dsimp only at hn
     subst hn
     simp(maxSteps:=1000000) [Ca,Dd,D7,D3,Dl,D8,Dm,Dn,C7,D6,Dk,Gj,-List.getD_eq_getElem?_getD,-List.map_map,Lb,g0,g2,g3,g4,ho,fz,hd,g,c0,c1,cn,w,w',eq_false f,pk6,f6,Dr]
     exact⟨n,by omega,b1,_,q1+1,hdg, .inl rfl,rfl,rfl,rfl,rfl,rfl,by omega,by omega,by omega⟩
def xk (m:Nat):Bm:=120::Mv m
theorem Bge (m:Nat) (h1:10≤m) (h2:m<100):xk m=[120,UInt8.ofNat (48+m / 10),UInt8.ofNat (48+m % 10)]:=by
 unfold xk Mv
 rw[if_neg (by omega),Int.toNat_natCast,Nn,dif_neg (by omega),Nn,dif_pos (by omega)]
 rfl
theorem Buc {m n:Nat} (h1:10≤m) (h2:m<100) (h3:10≤n) (h4:n<100) (h:xk m=xk n):m=n:=by
 rw[Bge m h1 h2,Bge n h3 h4] at h
 simp only[List.cons.injEq,true_and,and_true] at h
 obtain⟨a,b⟩:=h
 have a:=congrArg UInt8.toNat a
 have b:=congrArg UInt8.toNat b
 simp only[UInt8.toNat_ofNat'] at a b
 omega
def N7 (n:Nat) (e:En):Bool:=(List.range 40).all fun m=> !(decide (n≤m) &&decide (e.key=xk m))
theorem Rr (n:Nat) (e:En):N7 n e=true↔∀m,n≤m→m<40→e.key≠xk m:=by
 unfold N7
 rw[List.all_eq_true]
 constructor
 ·intro h m h1 h2 h3
  have:=h m (List.mem_range.2 h2)
  simp[h1,h3] at this
 ·intro h m hm
  have hm:=List.mem_range.1 hm
  by_cases h1:n≤m
  ·simp[h1,h m h1 hm]
  ·simp[h1]
theorem Bjn {n:Nat} {e:En} (h:N7 n e=true):N7 (n+1) e=true:=(Rr _ _).2 fun m h1 h2=> (Rr _ _).1 h m (by omega) h2
theorem Bd3 (p:En→Bool) (es:List En) (k:Nat) (hk:k<es.length) (hp:p (es.getD k default)=false): (Fs es k).countP p=es.countP p:=by
 have h:es=es.take k++es.getD k default::es.drop (k+1):=by rw[←Ba3 es k default hk,List.take_append_drop]
 conv=>rhs;rw[h]
 unfold Fs
 rw[List.countP_append,List.countP_append,List.countP_cons_of_neg (by rw[hp];simp)]
theorem Bo3 (n:Nat) (h1:10≤n) (h2:n<40):Fc ⟨xk n,0,1,[],[],[],[]⟩=true:=by
 rw[Bge n h1 (by omega)]
 rfl
theorem Bmf {b:Ba} (n:Nat) (h1:10≤n) (h2:n<40) (hl:b.ents.length<12):b.ents.countP (N7 n)+1≤(Kv b ⟨xk n,0,1,[],[],[],[]⟩).1.ents.countP (N7 (n+1)):=by
 have hd: (Cy b (xk n)).ents.length<12:=by have:=N0 b (xk n);omega
 have hp:Kv b ⟨xk n,0,1,[],[],[],[]⟩=(⟨b.now,Dv (Cy b (xk n)).ents (Fj (Cy b (xk n)).ents (xk n)) ⟨xk n,0,1,[],[],[],[]⟩⟩,true):=by
  unfold Kv
  rw[if_neg (by simp[L3]),if_pos (by unfold Mb;rw[Bo3 n h1 h2];simp[hd])]
 rw[hp]
 have hs:N7 (n+1) ⟨xk n,0,1,[],[],[],[]⟩=true:=(Rr _ _).2 fun m a c h=>by have:=Buc h1 (by omega) (by omega) (by omega) h;omega
 dsimp only
 unfold Dv
 rw[List.countP_append,List.countP_cons_of_pos hs]
 have h3: ((Cy b (xk n)).ents.take (Fj (Cy b (xk n)).ents (xk n))).countP (N7 (n+1))+((Cy b (xk n)).ents.drop (Fj (Cy b (xk n)).ents (xk n))).countP (N7 (n+1))=(Cy b (xk n)).ents.countP (N7 (n+1)):=by
  rw[←List.countP_append,List.take_append_drop]
 have h4: (Cy b (xk n)).ents.countP (N7 n)≤(Cy b (xk n)).ents.countP (N7 (n+1)):=List.countP_mono_left fun e _ h=>Bjn h
 have h5: (Cy b (xk n)).ents.countP (N7 n)=b.ents.countP (N7 n):=by
  unfold Cy
  split
  ·rename_i hh
   refine Bd3 _ _ _ (Jr hh) ?_
   unfold Gr at hh
   simp only[Bool.and_eq_true,decide_eq_true_eq] at hh
   cases hse:N7 n (b.ents.getD (Fj b.ents (xk n)) default) with
   |false=>rfl
   |true=>exact absurd hh.2 ((Rr _ _).1 hse n (Nat.le_refl _) h2)
  ·rfl
 omega
def XI (H:Hp) (r:Nat) (bs:List Int) (A:Ev.Obj) (q:Int) (j:Nat) (e:Env) (X:Hp):Prop:=
 ∃ (b:Ba) (c:V) (n:Nat),BaG b∧Bgi c b∧X=rh H r bs q [A, .row 0 2 [c]]∧e.get 2= .ptr (Bc H) 0 0 0∧e.get 3= .ptr (Bc H+1) 0 0 0∧e.get 6= .d (.int .i64 n)∧n+j=22∧10≤n∧n - 10≤b.ents.countP (N7 n)
def XE (H:Hp) (r:Nat) (bs:List Int) (A:Ev.Obj) (q:Int) (o:Out) (e:Env) (X:Hp):Prop:=
 o= .exit 2∧∃ (b:Ba) (c:V),BaG b∧Bgi c b∧X=rh H r bs q [A, .row 0 2 [c]]∧e.get 2= .ptr (Bc H) 0 0 0∧e.get 3= .ptr (Bc H+1) 0 0 0
theorem Bvd (H:Hp) (r:Nat) (bs:List Int) (A:Ev.Obj) (q:Int) (j:Nat) (e:Env) (X:Hp) (hI:XI H r bs A q j e X):
  Gives (XE H r bs A q) (Bg (Bo (ev R) R.glob (Bc H) Bg X5) [2,3,6] ⟨e,X⟩):=by
 refine Wd (F:=Bo (ev R) R.glob (Bc H) Bg X5) (lv:=[2,3,6]) (XI H r bs A q) (XE H r bs A q) ?_ j e X hI
 show ∀n e X,XI H r bs A q n e X→Gives (Ry (Nxt (XI H r bs A q) n) (XE H r bs A q)) _
 rintro j e X ⟨b,c,n,hg,hc,rfl,g2,g3,g6,hn,h10,hcnt⟩
 have hle:=List.countP_le_length (p:=N7 n) (l:=b.ents)
 by_cases hl:b.ents.length<12
 ·have hj:0<j:=by omega
  have hl': (b.ents.length:Int)<12:=by omega
  have p1:=Bqc (n:Int) (by omega)
  have he:EnQ ⟨xk n,0,1,[],[],[],[]⟩:=Uk (Bo3 n h10 (by omega))
  have p2:=Bxw b ⟨xk n,0,1,[],[],[],[]⟩ hg.sm he.sm he.fit
  have hpg:=Bhj hg ⟨xk n,0,1,[],[],[],[]⟩
  have hpm:=Bmf n h10 (by omega) hl
  have dl:=he.key
  dsimp only at dl
  have sr:1+(Mv n).length≤Gz:=by unfold xk at dl;rw[List.length_cons] at dl;unfold Gz;omega
  have w:IntKind.i64.wrap ((n:Int)+1)=(n:Int)+1:=IntWalk.i64_in _ (by omega)
  unfold xk at p2 hpg hpm
  generalize Kv b ⟨120::Mv n,0,1,[],[],[],[]⟩=P at*
  obtain⟨b1,ok⟩:=P
  dsimp only at*
  rcases hc with rfl| ⟨rfl,hz⟩
  ·simp(maxSteps:=1000000) [Ca,Dd,D7,D3,Dl,D8,Dm,Dn,C7,D6,Dk,Gj,-List.getD_eq_getElem?_getD,-List.map_map,X5,g2,g3,g6,hl',hl,p1,p2,sr,w]
   exact⟨j - 1,by omega,b1,_,n+1,hpg, .inl rfl,rfl,rfl,rfl,rfl,by omega,by omega,by omega⟩
  ·obtain⟨now,ents⟩:=b
   dsimp only at hz
   subst hz
   simp(maxSteps:=1000000) [Ca,Dd,D7,D3,Dl,D8,Dm,Dn,C7,D6,Dk,Gj,-List.getD_eq_getElem?_getD,-List.map_map,X5,g2,g3,g6,p1,p2,sr,w,Dr]
   exact⟨j - 1,by omega,b1,_,n+1,hpg, .inl rfl,rfl,rfl,rfl,rfl,by omega,by omega,by omega⟩
 ·have hl': ¬ (b.ents.length:Int)<12:=by omega
  rcases hc with rfl| ⟨rfl,hz⟩
  ·simp(maxSteps:=1000000) [Ca,Dd,D7,D3,Dl,D8,Dm,Dn,C7,D6,Dk,Gj,-List.getD_eq_getElem?_getD,-List.map_map,X5,g2,g3,g6,hl',hl]
   exact⟨rfl,b,_,hg, .inl rfl,rfl,rfl,rfl⟩
  ·rw[hz] at hl
   simp at hl
theorem Byy (H:Hp) (r:Nat) (bs:List Int) (p:Int) (h:B6 H r=some (rd bs p)) (hb:Cz bs) (hp:0≤p) (hp2:p≤10000000):
  ∃ (b:Ba) (q:Int),ev R 53 [.ptr r 0 0 0] H=some (.d (Cv b),Bu H r (rd bs q))∧BaG b∧p≤q∧q≤p+600:=by
 have hr:=Dj h
 have hH:=Bmq H r bs h
 have o1:=fun l=>Bfo (H:=H) (l:=l) (r:=r) (bs:=bs) (q:=p) [0,0,10,1000000] hr hb hp (by omega) (by simp) (by simp)
 have om:=Wm bs p [0,0,10,1000000] hb hp (by omega) (by simp)
 generalize Bbw bs p [0,0,10,1000000]=now at*
 simp only[Blt,List.map_cons,List.map_nil] at o1
 have hnow:0≤now∧now≤1000000:=by
  simp only[List.mem_cons,List.not_mem_nil,or_false] at om
  omega
 have p14:=fun l=>J8 (H:=H) (l:=l) (r:=r) (bs:=bs) (q:=p+1) 14 hr hb (by omega) (by omega)
 obtain⟨k0,k1⟩:=Gg bs (p+1) 14 hb (by omega) (by omega)
 have k1:=k1 (by omega)
 generalize Cr bs (p+1) 14=k at*
 obtain⟨k,rfl⟩:=Int.eq_ofNat_of_zero_le k0
 obtain⟨o,e',X',he,rfl,b,c,q,hg,hc,rfl,g0,g2,g3,q1,q2⟩:=(By3 H r bs (.row 0 2 [.agg [.d (.int .i64 0), .nils 7]]) (p+1+1) hr hb (by omega) (by omega) k
  [(0, .ptr r 0 0 0),(2, .ptr (Bc H) 0 0 0),(3, .ptr (Bc H+1) 0 0 0),(4, .d (.int .i64 k))] (rh H r bs (p+1+1) [.row 0 2 [.agg [.d (.int .i64 0), .nils 7]], .row 0 2 [.agg [.d (.int .i64 now), .nils 7]]])
  ⟨⟨now,[]⟩,_,p+1+1,⟨by simp,by simp,by dsimp only;omega⟩, .inr ⟨rfl,rfl⟩,rfl,rfl,rfl,rfl,rfl,by omega,by omega,by omega⟩).out
 have p30:=fun l=>J8 (H:=H) (l:=l) (r:=r) (bs:=bs) (q:=q) 30 hr hb (by omega) (by omega)
 by_cases f:Cr bs q 30=0
 ·obtain⟨o2,e2,X2,he2,rfl,b2,c2,hg2,hc2,rfl,m2,m3⟩:=(Bvd H r bs (.row 0 2 [.agg [.d (.int .i64 0), .nils 7]]) (q+1) 12
   [(2, .ptr (Bc H) 0 0 0),(3, .ptr (Bc H+1) 0 0 0),(6, .d (.int .i64 10))] (rh H r bs (q+1) [.row 0 2 [.agg [.d (.int .i64 0), .nils 7]], .row 0 2 [c]])
   ⟨b,c,10,hg,hc,rfl,rfl,rfl,rfl,by omega,by omega,by omega⟩).out
  refine⟨b2,q+1, ?_,hg2,by omega,by omega⟩
  conv=>lhs;rw[hH]
  refine Bi (fn:=f53) rfl rfl ?_
  rcases hc2 with rfl| ⟨rfl,hz⟩
  ·simp(maxSteps:=1000000) [Ca,Dd,D7,D3,Dl,D8,Dm,Dn,C7,D6,Dk,Gj,-List.getD_eq_getElem?_getD,-List.map_map,f53,o1,p14,he,g0,g2,g3,p30,f,he2,m2,m3]
  ·obtain⟨now2,ents⟩:=b2
   dsimp only at hz
   subst hz
   simp(maxSteps:=1000000) [Ca,Dd,D7,D3,Dl,D8,Dm,Dn,C7,D6,Dk,Gj,-List.getD_eq_getElem?_getD,-List.map_map,f53,o1,p14,he,g0,g2,g3,p30,f,he2,m2,m3,Dr]
 ·refine⟨b,q+1, ?_,hg,by omega,by omega⟩
  conv=>lhs;rw[hH]
  refine Bi (fn:=f53) rfl rfl ?_
  rcases hc with rfl| ⟨rfl,hz⟩
  ·simp(maxSteps:=1000000) [Ca,Dd,D7,D3,Dl,D8,Dm,Dn,C7,D6,Dk,Gj,-List.getD_eq_getElem?_getD,-List.map_map,f53,o1,p14,he,g0,g2,g3,p30,f]
  ·obtain⟨now2,ents⟩:=b
   dsimp only at hz
   subst hz
   simp(maxSteps:=1000000) [Ca,Dd,D7,D3,Dl,D8,Dm,Dn,C7,D6,Dk,Gj,-List.getD_eq_getElem?_getD,-List.map_map,f53,o1,p14,he,g0,g2,g3,p30,f,Dr]
structure BaL (b:Ba):Prop where
 len:b.ents.length≤13
 each: ∀e∈b.ents,EnQ e
 now: -1≤b.now∧b.now≤2000000
theorem BaL.sm {b:Ba} (h:BaL b):BaSm b:=⟨by have:=h.len;omega,fun e he=> (h.each e he).sm⟩
theorem BaL.fit {b:Ba} (h:BaL b):BaFit b:=⟨by have:=h.now;exact⟨by omega,by omega⟩,by have:=h.len;omega,fun e he=> (h.each e he).fit⟩
theorem BaG.l {b:Ba} (h:BaG b):BaL b:=⟨by have:=h.len;omega,fun e he=>Uk (h.each e he),by have:=h.now;omega⟩
theorem Bh5 (n:Int) (e:En):D.agg [.int .i64 n, .vals 7 [Dw e]]=Cv ⟨n,[e]⟩:=rfl
theorem Bli (e:En) (z:Int):D.agg [.str e.key, .int .i64 e.till, .int .i64 z, .str e.text, .vals 1 (e.list.map D.str),Cs e.scores,Dp e.fields]=Dw ⟨e.key,e.till,z,e.text,e.list,e.scores,e.fields⟩:=rfl
def Buh (H:Hp) (r:Nat) (bs:List Int) (p:Int):Prop:=
 ∃ (b:Ba) (q:Int),ev R 28 [.ptr r 0 0 0] H=some (.d (Cv b),Bu H r (rd bs q))∧BaL b∧p≤q∧q≤p+700
theorem Byr (H:Hp) (r:Nat) (bs:List Int) (p:Int) (h:B6 H r=some (rd bs p)) (hb:Cz bs) (hp:0≤p) (hp2:p≤10000000):Buh H r bs p:=by
 have hr:=Dj h
 have hH:=Bmq H r bs h
 have bl: ∀l,∃ (b:Ba) (q:Int),ev R 53 [.ptr r 0 0 0] (rh H r bs p l)=some (.d (Cv b),Bu (rh H r bs p l) r (rd bs q))∧BaG b∧p≤q∧q≤p+600:=fun l=>Byy _ r bs p (Bcq H l r bs p hr) hb hp hp2
 obtain⟨⟨now,es⟩,q,e0,hg,q1,q2⟩:=bl [.row 0 2 [.agg [.d (.int .i64 0), .nils 7]]]
 rw[Baf H _ r bs p hr] at e0
 clear bl
 have p16:=fun l=>J8 (H:=H) (l:=l) (r:=r) (bs:=bs) (q:=q) 16 hr hb (by omega) (by omega)
 have hL:=hg.l
 by_cases hes:es=[]
 ·subst hes
  have p0: ∀X,ev R 36 [.d (Cv ⟨now,[]⟩)] X=some (.agg [.d (.int .i64 now), .nils 7],X):=fun X=>Bih ⟨now,[]⟩ hg.sm.len hg.sm.each X
  by_cases c0:Cr bs q 16=0
  ·have o1:=fun l=>Bfo (H:=H) (l:=l) (r:=r) (bs:=bs) (q:=q+1) [-1,1000001,50] hr hb (by omega) (by omega) (by simp) (by simp)
   have om:=Wm bs (q+1) [-1,1000001,50] hb (by omega) (by omega) (by simp)
   generalize Bbw bs (q+1) [-1,1000001,50]=z at*
   simp only[Blt,List.map_cons,List.map_nil] at o1
   refine⟨⟨z,[]⟩,q+1+1, ?_,⟨by simp,by simp,by simp only[List.mem_cons,List.not_mem_nil,or_false] at om;dsimp only;omega⟩,by omega,by omega⟩
   conv=>lhs;rw[hH]
   refine Bi (fn:=f28) rfl rfl ?_
   simp(maxSteps:=1000000) [Ca,Dd,D7,D3,Dl,D8,Dm,Dn,C7,D6,Dk,Gj,-List.getD_eq_getElem?_getD,-List.map_map,f28,e0,p0,p16,c0,o1,Dr]
  by_cases c1:Cr bs q 16=1
  ·refine⟨⟨now,[]⟩,q+1, ?_,hL,by omega,by omega⟩
   conv=>lhs;rw[hH]
   refine Bi (fn:=f28) rfl rfl ?_
   simp(maxSteps:=1000000) [Ca,Dd,D7,D3,Dl,D8,Dm,Dn,C7,D6,Dk,Gj,-List.getD_eq_getElem?_getD,-List.map_map,f28,e0,p0,p16,c1,Dr]
  by_cases c2:Cr bs q 16=2
  ·have o1:=fun l=>Bsg (H:=H) (l:=l) (r:=r) (bs:=bs) (q:=q+1) [[],[122,122],[97]] hr hb (by omega) (by omega) (by simp)
   have om:=T2 bs (q+1) [[],[122,122],[97]] 40 (by simp)
   generalize ofV bs (q+1) [[],[122,122],[97]]=z at*
   simp only[Bf,List.map_cons,List.map_nil] at o1
   have eq:EnQ ⟨z,0,1,[],[],[],[]⟩:=⟨by dsimp only;omega,by simp,by simp,by simp,by simp,by simp,by simp,by simp,by simp,by simp⟩
   refine⟨⟨now,[⟨z,0,1,[],[],[],[]⟩]⟩,q+1+1, ?_,⟨by simp,by simpa using eq,hL.now⟩,by omega,by omega⟩
   conv=>lhs;rw[hH]
   refine Bi (fn:=f28) rfl rfl ?_
   have rm: (120:Nat)≤Cb:=by unfold Cb;omega
   simp(maxSteps:=1000000) [Ca,Dd,D7,D3,Dl,D8,Dm,Dn,C7,D6,Dk,Gj,-List.getD_eq_getElem?_getD,-List.map_map,f28,e0,p0,p16,c2,o1,Bh5,rm]
  ·refine⟨⟨now,[]⟩,q+1, ?_,hL,by omega,by omega⟩
   conv=>lhs;rw[hH]
   refine Bi (fn:=f28) rfl rfl ?_
   simp(maxSteps:=1000000) [Ca,Dd,D7,D3,Dl,D8,Dm,Dn,C7,D6,Dk,Gj,-List.getD_eq_getElem?_getD,-List.map_map,f28,e0,p0,p16,eq_false c0,eq_false c1,eq_false c2,Dr]
 ·have p0: ∀X,ev R 36 [.d (Cv ⟨now,es⟩)] X=some (.agg [.d (.int .i64 now), .slc (Bc X) 0 0 es.length],ap X [.row 0 7 ((es.map Dw).map V.d)]):=fun X=>by
   rw[Bih ⟨now,es⟩ hg.sm.len hg.sm.each X]
   cases es with
   |nil=>exact absurd rfl hes
   |cons z r=>rfl
  have hl:=hg.len
  dsimp only at hl
  have l0:0<es.length:=List.length_pos_iff.2 hes
  have l1: (0:Int)< (es.length:Int):=by omega
  have ft:List.take es.length ((es.map Dw).map V.d)=(es.map Dw).map V.d:=List.take_of_length_le (by simp)
  by_cases c0:Cr bs q 16=0
  ·have o1:=fun l=>Bfo (H:=H) (l:=l) (r:=r) (bs:=bs) (q:=q+1) [-1,1000001,50] hr hb (by omega) (by omega) (by simp) (by simp)
   have om:=Wm bs (q+1) [-1,1000001,50] hb (by omega) (by omega) (by simp)
   generalize Bbw bs (q+1) [-1,1000001,50]=z at*
   simp only[Blt,List.map_cons,List.map_nil] at o1
   refine⟨⟨z,es⟩,q+1+1, ?_,⟨hL.len,hL.each,by simp only[List.mem_cons,List.not_mem_nil,or_false] at om;dsimp only;omega⟩,by omega,by omega⟩
   conv=>lhs;rw[hH]
   refine Bi (fn:=f28) rfl rfl ?_
   simp(maxSteps:=1000000) [Ca,Dd,D7,D3,Dl,D8,Dm,Dn,C7,D6,Dk,Gj,-List.getD_eq_getElem?_getD,-List.map_map,f28,e0,p0,p16,c0,o1,ft]
  by_cases c1:Cr bs q 16=1
  ·have o1:=fun l=>J8 (H:=H) (l:=l) (r:=r) (bs:=bs) (q:=q+1) es.length hr hb (by omega) (by omega)
   have o2:=fun l=>J8 (H:=H) (l:=l) (r:=r) (bs:=bs) (q:=q+1+1) 7 hr hb (by omega) (by omega)
   obtain⟨k0,k1⟩:=Gg bs (q+1) es.length hb (by omega) (by omega)
   obtain⟨k2,k3⟩:=Gg bs (q+1+1) 7 hb (by omega) (by omega)
   have k1:=k1 (by omega)
   have k3:=k3 (by omega)
   generalize Cr bs (q+1) es.length=i at*
   generalize Cr bs (q+1+1) 7=kd at*
   obtain⟨i,rfl⟩:=Int.eq_ofNat_of_zero_le k0
   have hi:i<es.length:=by omega
   have hm:es[i]∈es:=List.getElem_mem hi
   have hq:=hL.each _ hm
   obtain⟨E,g⟩: ∃E,es[i]=E:=⟨_,rfl⟩
   rw[g] at hm hq
   have sf:=Xa Dw es i ⟨E.key,E.till,kd,E.text,E.list,E.scores,E.fields⟩
   have sl: (es.set i ⟨E.key,E.till,kd,E.text,E.list,E.scores,E.fields⟩).length=es.length:=List.length_set
   have ee:EnQ ⟨E.key,E.till,kd,E.text,E.list,E.scores,E.fields⟩:=⟨hq.key,hq.text,hq.list,hq.lists,hq.scores,hq.scoress,hq.fields,hq.fieldss,hq.till,by dsimp only;omega⟩
   have em: ∀e∈es.set i ⟨E.key,E.till,kd,E.text,E.list,E.scores,E.fields⟩,EnQ e:=fun e he=>by
    rcases List.mem_or_eq_of_mem_set he with h1|h1
    ·exact hL.each e h1
    ·rw[h1];exact ee
   generalize es.set i ⟨E.key,E.till,kd,E.text,E.list,E.scores,E.fields⟩=ES at*
   have ft2:List.take es.length ((ES.map Dw).map V.d)=(ES.map Dw).map V.d:=List.take_of_length_le (by simp[sl])
   refine⟨⟨now,ES⟩,q+1+1+1, ?_,⟨by dsimp only;omega,em,hL.now⟩,by omega,by omega⟩
   conv=>lhs;rw[hH]
   refine Bi (fn:=f28) rfl rfl ?_
   simp(maxSteps:=1000000) [Ca,Dd,D7,D3,Dl,D8,Dm,Dn,C7,D6,Dk,Gj,-List.getD_eq_getElem?_getD,-List.map_map,f28,e0,p0,p16,c1,o1,o2,l0,l1,hi,k1,g,sf,sl,ft2,Bli]
  by_cases c2:Cr bs q 16=2
  ·have o1:=fun l=>Bsg (H:=H) (l:=l) (r:=r) (bs:=bs) (q:=q+1) [[],[122,122],[97]] hr hb (by omega) (by omega) (by simp)
   have om:=T2 bs (q+1) [[],[122,122],[97]] 40 (by simp)
   generalize ofV bs (q+1) [[],[122,122],[97]]=z at*
   simp only[Bf,List.map_cons,List.map_nil] at o1
   have eq:EnQ ⟨z,0,1,[],[],[],[]⟩:=⟨by dsimp only;omega,by simp,by simp,by simp,by simp,by simp,by simp,by simp,by simp,by simp⟩
   obtain⟨ES,hES⟩: ∃ES,ES=es++[(⟨z,0,1,[],[],[],[]⟩:En)]:=⟨_,rfl⟩
   have sf:List.map V.d (List.map Dw es)++[V.d (Dw ⟨z,0,1,[],[],[],[]⟩)]=List.map V.d (List.map Dw ES):=by rw[hES];simp
   have sl:ES.length=es.length+1:=by rw[hES];simp
   have em: ∀e∈ES,EnQ e:=fun e he=>by
    rw[hES] at he
    simp only[List.mem_append,List.mem_singleton] at he
    rcases he with h1|h1
    ·exact hL.each e h1
    ·rw[h1];exact eq
   refine⟨⟨now,ES⟩,q+1+1, ?_,⟨by dsimp only;omega,em,hL.now⟩,by omega,by omega⟩
   conv=>lhs;rw[hH]
   refine Bi (fn:=f28) rfl rfl ?_
   have rm: (es.length+1)*120≤Cb:=by unfold Cb;omega
   have ft2:List.take (es.length+1) ((ES.map Dw).map V.d)=(ES.map Dw).map V.d:=List.take_of_length_le (by simp[sl])
   simp(maxSteps:=1000000) [Ca,Dd,D7,D3,Dl,D8,Dm,Dn,C7,D6,Dk,Gj,-List.getD_eq_getElem?_getD,-List.map_map,f28,e0,p0,p16,c2,o1,rm,sf,sl,ft2]
  ·refine⟨⟨now,es⟩,q+1, ?_,hL,by omega,by omega⟩
   conv=>lhs;rw[hH]
   refine Bi (fn:=f28) rfl rfl ?_
   simp(maxSteps:=1000000) [Ca,Dd,D7,D3,Dl,D8,Dm,Dn,C7,D6,Dk,Gj,-List.getD_eq_getElem?_getD,-List.map_map,f28,e0,p0,p16,eq_false c0,eq_false c1,eq_false c2,ft]
theorem Byv (H:Hp) (bs:List Int) (h: ∀i,0≤bs.getD i 0∧bs.getD i 0≤255):
  ∃ (b:Ba) (t:Bm),ev R 42 [.d (Mt bs)] H=some (.tup [.d (Cv b), .d (.str t)],H)∧BaL b∧t.length≤40:=by
 have ho:=Biy bs h
 have o1:=fun H=>Byq H bs
 obtain⟨b,q,e1,hL,q1,q2⟩:=Byr (ap H [.row 0 2 [.agg [.d (.int .i64 0), .nils 7]],rd (Js bs) 0]) (Bc H+1) (Js bs) 0 (by rw[K9];rfl) ho (by omega) (by omega)
 rw[Qc] at e1
 obtain⟨t,ht,e2⟩:=Sh (ap H [.row 0 2 [.agg [.d (.int .i64 0), .nils 7]],rd (Js bs) q]) (Bc H+1) (Js bs) q (q+1) (o:=rd (Js bs) q) (by rw[K9];rfl) ho (by omega) (by omega) rfl
 rw[Qc,Qc] at e2
 simp only[Bu] at e1 e2
 refine⟨b,t, ?_,hL,ht⟩
 refine Bi (fn:=f42) rfl rfl ?_
 simp(maxSteps:=1000000) [Ca,-List.getD_eq_getElem?_getD,-List.map_map,f42,o1,e1,e2]
theorem Byp (H:Hp) (bs:List Int) (h: ∀i,0≤bs.getD i 0∧bs.getD i 0≤255):
  ∃ (b:Ba) (t:Bm),ev R 19 [.d (Mt bs)] H=some (.tup [.d (Cv b), .d (.str t)],H)∧BaL b∧t.length≤40:=by
 obtain⟨b,t,e1,hL,ht⟩:=Byv (ap H [.row 0 2 [.agg [.d (.int .i64 0), .nils 7]]]) bs h
 refine⟨b,t,Bi (fn:=f19) rfl rfl ?_,hL,ht⟩
 simp(maxSteps:=1000000) [Ca,-List.getD_eq_getElem?_getD,-List.map_map,f19,e1]
theorem Bec {e:En} (h:L3 e=true):Fc e=false:=by
 unfold L3 at h
 simp only[Bool.and_eq_true,decide_eq_true_eq] at h
 obtain⟨⟨h1,h2⟩,h3⟩:=h
 have a1:e.list=[]:=List.eq_nil_of_length_eq_zero (by omega)
 have a2:e.scores=[]:=List.eq_nil_of_length_eq_zero (by omega)
 have a3:e.fields=[]:=List.eq_nil_of_length_eq_zero (by omega)
 unfold Fc Kd
 rw[if_neg h1,a1,a2,a3,h2]
 simp
theorem Bjc {b:Ba} (h:BaO b) {t:Bm} (hk:Gr b.ents t=true): (Bt b t).key=t∧Bt b t∈b.ents∧Kv (Cy b t) (Bt b t)=(b,true):=by
 have hl:=Jr hk
 have hm:b.ents.getD (Fj b.ents t) default∈b.ents:=Fz hl
 have hkey: (b.ents.getD (Fj b.ents t) default).key=t:=by
  have hk2:=hk
  unfold Gr at hk2
  rw[Bool.and_eq_true] at hk2
  exact of_decide_eq_true hk2.2
 have hg:Bt b t=b.ents.getD (Fj b.ents t) default:=by unfold Bt;rw[if_pos hk]
 have hdl:b.ents.drop (Fj b.ents t)=b.ents.getD (Fj b.ents t) default::b.ents.drop (Fj b.ents t+1):=by
  rw[List.drop_eq_getElem_cons hl]
  simp[List.getD_eq_getElem?_getD,hl]
 rw[hg]
 obtain⟨he,hfr⟩:=h.each _ hm
 generalize b.ents.getD (Fj b.ents t) default=e at*
 refine⟨hkey,hm, ?_⟩
 have hn:=Rj h t
 have hdd:Cy (Cy b t) e.key=Cy b t:=by
  show(if Gr (Cy b t).ents e.key=true then _ else Cy b t)=Cy b t
  rw[hkey,hn];rfl
 have Bc: (Cy b t).ents.length+1=b.ents.length:=by
  unfold Cy
  rw[if_pos hk]
  simp only[K3 _ _ hl];omega
 have hemp:L3 e=false:=by
  cases hq:L3 e with
  |false=>rfl
  |true=>exact absurd he (by rw[Bec hq];simp)
 have hmay:Mb (Cy b t) e=true:=by
  unfold Mb
  rw[he,hdd,Kf]
  have:=h.len
  have h3: (Cy b t).ents.length<12:=by omega
  rcases hfr with h4|h4
  ·simp[h3,h4]
  ·have: ¬e.till≤b.now:=by omega
   simp[h3,this]
 unfold Kv
 rw[hemp,hmay,hdd]
 simp only[Bool.false_eq_true,if_false,if_true,Prod.mk.injEq,and_true]
 have hp:=Pj h.asc t
 have hk2:Fj (Cy b t).ents e.key=Fj b.ents t:=by
  rw[hkey]
  unfold Cy
  rw[if_pos hk]
  have ha:=h.asc.sublist (List.drop_sublist (Fj b.ents t) b.ents)
  rw[hdl] at ha
  show(List.takeWhile _ (b.ents.take (Fj b.ents t)++b.ents.drop (Fj b.ents t+1))).length=_
  rw[List.takeWhile_append_of_pos (fun x hx=>hp.1 x hx),List.length_append,List.length_take]
  have:List.takeWhile (fun e:En=>Op.bytesLess e.key t) (b.ents.drop (Fj b.ents t+1))=[]:=by
   cases hd:b.ents.drop (Fj b.ents t+1) with
   |nil=>rfl
   |cons y r=>
    have hy:=List.rel_of_pairwise_cons ha (show y∈b.ents.drop (Fj b.ents t+1) by rw[hd];simp)
    rw[List.takeWhile_cons]
    cases hq:Op.bytesLess y.key t with
    |false=>rfl
    |true=>have:=Ld hy hq;rw[hkey,F5] at this;simp at this
  rw[this,List.length_nil];omega
 rw[hk2,Kf]
 unfold Cy
 rw[if_pos hk]
 simp only[Fs,Dv]
 have hlt: (b.ents.take (Fj b.ents t)).length=Fj b.ents t:=by rw[List.length_take];omega
 have l1: (b.ents.take (Fj b.ents t)++b.ents.drop (Fj b.ents t+1)).take (Fj b.ents t)=b.ents.take (Fj b.ents t):=by
  rw[List.take_append_of_le_length (by omega),List.take_of_length_le (by omega)]
 have l2: (b.ents.take (Fj b.ents t)++b.ents.drop (Fj b.ents t+1)).drop (Fj b.ents t)=b.ents.drop (Fj b.ents t+1):=by
  rw[List.drop_append_of_le_length (by omega),List.drop_of_length_le (by omega),List.nil_append]
 rw[l1,l2,←hdl,List.take_append_drop]
theorem e_5 (H:Hp) (bs:List Int) (h: ∀i,0≤bs.getD i 0∧bs.getD i 0≤255):ev R 5 [.d (Mt bs)] H=some (.d (.bool true),H):=by
 by_cases hbig:1048576<bs.length
 ·refine Bi (fn:=f5) rfl rfl ?_
  have hbig': (1048576:Int)< (bs.length:Int):=by omega
  simp(maxSteps:=1000000) [Ca,-List.getD_eq_getElem?_getD,-List.map_map,f5,hbig']
 have hbig': ¬ (1048576:Int)< (bs.length:Int):=by omega
 obtain⟨b,t,ed,hL,ht⟩:=Byp H bs h
 refine Bi (fn:=f5) rfl rfl ?_
 have p1:=B02 b t hL.sm hL.fit
 have p2:=B03 b t hL.sm hL.fit
 have p3:=Bxu b t hL.sm hL.fit
 have p4:=B04 b t hL.sm hL.fit
 have p5:=Bl6 b hL.fit
 have q0:=Baj hL.sm
 have q1:BaSm ⟨0,[]⟩:=⟨by simp,by simp⟩
 have q2:EnSm Ni:=⟨by simp[Ni],by simp[Ni],by simp[Ni]⟩
 unfold Ue at p1 p2
 unfold Bav at p3 p4
 cases hk:F3 b with
 |false=>
  rw[hk] at p1 p2 p3 p4 p5
  simp only[Bool.false_eq_true,if_false,false_and] at p1 p2 p3 p4
  have s1:=Baj q1
  have s2:=Bai q2
  generalize Ni=E at*
  generalize(⟨0,[]⟩:Ba)=B at*
  simp(maxSteps:=1000000) [Ca,-List.getD_eq_getElem?_getD,-List.map_map,f5,hbig',ed,p1,p2,p3,p4,p5,s1,s2]
 |true=>
  have hO:=(Jj b).1 hk
  have s1:=Baj (Bab hO t).g.sm
  have s2:=Bai q2
  cases hh:Gr b.ents t with
  |false=>
   rw[hk,hh] at p1 p2 p3 p4
   rw[hk] at p5
   have hd:Cy b t=b:=by unfold Cy;rw[if_neg (by rw[hh];simp)]
   rw[hd] at p1 p2
   simp only[if_true,Bool.false_eq_true,and_false,if_false] at p1 p2 p3 p4
   generalize Ni=E at*
   simp(maxSteps:=1000000) [Ca,-List.getD_eq_getElem?_getD,-List.map_map,f5,hbig',ed,p1,p2,p3,p4,p5,q0,s2]
  |true=>
   rw[hk,hh] at p1 p2 p3 p4
   rw[hk] at p5
   simp only[if_true,and_self] at p1 p2 p3 p4
   obtain⟨r1,r2,r3⟩:=Bjc hO hh
   have hsm:=hL.sm.each _ r2
   have s3:=Bai hsm
   have hOd:=Bab hO t
   have p6:=Bxu (Cy b t) t hOd.g.sm hOd.g.fit
   unfold Bav at p6
   rw[Rj hO t] at p6
   simp only[Bool.false_eq_true,and_false,if_false] at p6
   have p7:=B05 (Cy b t) (Bt b t) hOd.g.sm hOd.g.fit hsm (hL.fit.each _ r2)
   unfold Bo9 at p7
   rw[(Jj _).2 hOd,r3] at p7
   simp only[if_true] at p7
   generalize Ni=E at*
   generalize Cy b t=B at*
   generalize hE:Bt b t=G at*
   simp(maxSteps:=1000000) [Ca,-List.getD_eq_getElem?_getD,-List.map_map,f5,hbig',ed,p1,p2,p3,p4,p5,p6,p7,q0,s1,s2,s3,eq_true r1]
end Go.Proofs.YtjdmiodinhlchaaGreat.Code

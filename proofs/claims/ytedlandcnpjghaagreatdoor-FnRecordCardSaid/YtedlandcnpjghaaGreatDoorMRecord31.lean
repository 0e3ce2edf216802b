/- Lemmas (several texts in one). -/
import Derived.Test.YtedlandcnpjghaaGreatDoorMRecord7
import Derived.Test.YtedlandcnpjghaaGreatDoorMRecord13
import Derived.Test.YtedlandcnpjghaaGreatDoorMRecord28
import Derived.Test.YtedlandcnpjghaaGreatDoorMRecord30
set_option maxRecDepth 100000
set_option maxHeartbeats 4000000
set_option linter.unusedSimpArgs false
set_option linter.unusedVariables false
namespace Go.Proofs.YtedlandcnpjghaaGreatDoor.Code
open Go Go.Ev Go.Proofs
def Bl6 (c:V) (b:Ba):Prop:=c= .d (D6 b)∨(c= .agg [.d (.int .i64 b.now), .nils 7]∧b.ents=[])
theorem Bvk {b:Ba} (hb:BaG b) (ks:List Bl):BaG (Bcm b ks).1:=by
 unfold Bcm
 have key: ∀ (n i:Nat) (s:Ba×Nat),BaG s.1→BaG ((List.range' i n).foldl (fun s i=>Xi ks i s) s).1:=by
  intro n
  induction n with
  |zero=>intro i s h;exact h
  |succ n ih=>intro i s h;rw[List.range'_succ,List.foldl_cons];exact ih _ _ (Bnq ks i s h)
 exact key _ _ _ hb
theorem Bo1 (b:Ba) (ks:List Bl): (Bk4 b ks).1=b:=by
 unfold Bk4
 have key: ∀ (n i:Nat) (s:Ba×Nat),((List.range' i n).foldl (fun s i=>Bfg ks i s) s).1=s.1:=by
  intro n
  induction n with
  |zero=>intro i s;rfl
  |succ n ih=>intro i s;rw[List.range'_succ,List.foldl_cons,ih];rfl
 exact key _ _ _
theorem Jp {b:Ba} {c:Prop} [Decidable c] {x y:Ba×Re} (hx:BaG x.1) (hy:BaG y.1):BaG (if c then x else y).1:=by split<;>assumption
theorem Bij {b:Ba} (hb:BaG b) (k:Bl) (n:Int):BaG (Y7 b k n).1:=by
 unfold Y7
 exact Jp (b:=b) hb (Jp (b:=b) (Ta hb k) (Gs hb _ _))
theorem By8 {b:Ba} (hb:BaG b) (w:Bl) (r:List Bl):BaG (Di b w r).1:=by
 unfold Di
 repeat' (with_reducible refine Jp (b:=b) ?_ ?_)
 all_goals first
  |exact hb
  | (unfold Bck;exact Jp (b:=b) (Gs hb _ _) hb)
  | (unfold Bo3;exact Gs hb _ _)
  | (unfold Ug;exact Jp (b:=b) hb (Gs hb _ _))
  | (unfold Nz;exact Jp (b:=b) hb hb)
  | (unfold Td;exact Jp (b:=b) (Gs hb _ _) hb)
  | (unfold Bcn;exact Jp (b:=b) (Gs hb _ _) hb)
  | (unfold Uj;exact Jp (b:=b) hb hb)
  | (unfold Y6;exact Jp (b:=b) (Gs hb _ _) hb)
  | (unfold Beq;exact Jp (b:=b) (Jp (b:=b) (Gs hb _ _) hb) hb)
  | (unfold Bep;exact Jp (b:=b) (Gs hb _ _) hb)
  | (unfold Ber;exact Jp (b:=b) (Gs hb _ _) hb)
  | (unfold Bes;exact Gs hb _ _)
  | (unfold Bet;exact Jp (b:=b) (Jp (b:=b) (Gs hb _ _) hb) hb)
  | (unfold Qv;exact Jp (b:=b) (Jp (b:=b) (Gs hb _ _) hb) hb)
  | (unfold Ul;exact Jp (b:=b) hb hb)
  | (unfold Jt;exact Jp (b:=b) hb hb)
  | (unfold Beu;exact Gs hb _ _)
  | (unfold Beo;exact Jp (b:=b) (Gs hb _ _) hb)
  | (unfold Ben;exact Gs hb _ _)
  | (unfold Qs;exact Jp (b:=b) (Jp (b:=b) (Gs hb _ _) hb) hb)
  | (unfold Qt;exact Gs hb _ _)
  | (unfold Ui;exact Jp (b:=b) (Bij hb _ _) hb)
  | (unfold Ny;exact Jp (b:=b) (Bij hb _ _) hb)
  | (unfold Uk;exact Jp (b:=b) hb (Gs (Ta hb _) _ _))
  | (unfold Bo0;exact Bvk hb _)
  | (unfold Uh;dsimp only;rw[Bo1];exact hb)
  | (unfold Y4;exact⟨by simp,by simp,hb.now⟩)
theorem B2r {b:Ba} (hb:BaG b) (args:List Bl):BaG (rDo b args).1:=by
 unfold rDo
 exact Jp (b:=b) (By8 hb _ _) hb
def Bl4 (H:Hp) (r:Nat) (bs:List Int) (A:Ev.Obj) (q0:Int) (k:Nat) (e:Env) (X:Hp):Prop:=
 ∃ (b:Ba) (c:V) (q:Int),BaG b∧Bl6 c b∧X=rh H r bs q [A, .row 0 2 [c]]∧e.get 0= .ptr r 0 0 0∧e.get 2= .ptr (Bc H) 0 0 0∧e.get 3= .ptr (Bc H+1) 0 0 0∧e.get 4= .d (.int .i64 k)∧q0≤q∧q≤q0+30*(14 - k)∧k≤14
def Bqd (H:Hp) (r:Nat) (bs:List Int) (A:Ev.Obj) (q0:Int) (o:Out) (e:Env) (X:Hp):Prop:=
 o= .exit 0∧∃ (b:Ba) (c:V) (q:Int),BaG b∧Bl6 c b∧X=rh H r bs q [A, .row 0 2 [c]]∧e.get 0= .ptr r 0 0 0∧e.get 2= .ptr (Bc H) 0 0 0∧e.get 3= .ptr (Bc H+1) 0 0 0∧q0≤q∧q≤q0+500
theorem Boc {ts:List Bl} (h1:1≤ts.length) (h8:ts.length≤8) (hs: ∀x∈ts,x.length≤40):Jq ts=true:=(J6 ts).2 ⟨hs,h1,h8⟩
theorem B3x (H:Hp) (r:Nat) (bs:List Int) (A:Ev.Obj) (q0:Int) (hr:r<Bc H) (hb:Dl bs) (h0:0≤q0) (h1:q0≤100000000) (k:Nat) (e:Env) (X:Hp) (hI:Bl4 H r bs A q0 k e X):
  Gives (Bqd H r bs A q0) (Bg (Bp (ev R) R.glob (Bc H) Bg Pf) [0,2,3,4] ⟨e,X⟩):=by
 refine Bb6 (F:=Bp (ev R) R.glob (Bc H) Bg Pf) (lv:=[0,2,3,4]) (Bl4 H r bs A q0) (Bqd H r bs A q0) ?_ k e X hI
 show ∀n e X,Bl4 H r bs A q0 n e X→Gives (Bba (Nxt (Bl4 H r bs A q0) n) (Bqd H r bs A q0)) _
 rintro n e X ⟨b,c,q,hg,hc,rfl,g0,g2,g3,g4,hq0,hq1,hk⟩
 cases n with
 |zero=>
  simp(maxSteps:=1000000) [Cq,Dj,D9,D5,Dn,Fa,Dp,Cw,Cs,D8,Dm,F5,-List.getD_eq_getElem?_getD,-List.map_map,Pf,g0,g2,g3,g4]
  exact⟨rfl,b,c,q,hg,hc,rfl,rfl,rfl,rfl,hq0,by omega⟩
 |succ n=>
  obtain⟨ts,q1,ho,a1,a2,t1,t8,ts40⟩:=Bip (l:=[A, .row 0 2 [c]]) hr hb (show 0≤q by omega) (show q≤1000000000 by omega)
  simp only[List.length_cons,List.length_nil,List.cons_append,List.nil_append] at ho
  have fz:=fun c'=>Bza H [A, .row 0 2 [c'], .row 0 1 ((ts.map D.str).map V.d)] r bs q1 2 2 0 1 ts.length (ts.map D.str) (by omega) rfl (by simp)
  have hd:=B52 b ts hg (Boc t1 t8 ts40)
  have hdg:=B2r hg ts
  have g:=Dt ts 0 (by omega)
  have c0: (0:Int)< (ts.length:Int):=by omega
  have c1:0<ts.length:=by omega
  have cn: (0:Int)< (n:Int)+1:=by omega
  have w:IntKind.i64.wrap ((n:Int)+1 - 1)=(n:Int):=by rw[IntWalk.i64_in _ (by omega)];omega
  have w':IntKind.i64.wrap (n:Int)=(n:Int):=IntWalk.i64_in _ (by omega)
  generalize rDo b ts=P at*
  obtain⟨b1,re⟩:=P
  dsimp only[Bj] at hd hdg
  have pk4:=fun l=>Ky (H:=H) (l:=l) (r:=r) (bs:=bs) (q:=q1) 4 hr hb (by omega) (by omega)
  have pk6:=fun l=>Ky (H:=H) (l:=l) (r:=r) (bs:=bs) (q:=q1) 6 hr hb (by omega) (by omega)
  have pk61:=fun l=>Ky (H:=H) (l:=l) (r:=r) (bs:=bs) (q:=q1+1) 6 hr hb (by omega) (by omega)
  have pk46:=fun l=>Ky (H:=H) (l:=l) (r:=r) (bs:=bs) (q:=q1+1) 4 hr hb (by omega) (by omega)
  have pk461:=fun l=>Ky (H:=H) (l:=l) (r:=r) (bs:=bs) (q:=q1+1+1) 4 hr hb (by omega) (by omega)
  obtain⟨k40,_⟩:=Gp bs (q1+1) 4 hb (by omega) (by omega)
  obtain⟨k41,k42⟩:=Gp bs (q1+1) 4 hb (by omega) (by omega)
  obtain⟨k43,k44⟩:=Gp bs (q1+1+1) 4 hb (by omega) (by omega)
  have k42:=k42 (by omega)
  have k44:=k44 (by omega)
  have tk: ∀ (B:Ba) (hB:BaG B) (z:Int),0≤z→z<4→Be (ev R) 47 [.d (D6 B), .d (.int .i64 z)]=some (.d (D6 (Yi B z))):=fun B hB z z0 z1=>B53 B z hB.sm hB.fit (by have:=hB.now;omega) (by omega)
  have tkb1:=tk b hg _ k41 k42
  have tkb2:=tk b hg _ k43 k44
  have tkc1:=tk b1 hdg _ k41 k42
  have tkc2:=tk b1 hdg _ k43 k44
  have vb1:=Ba9 hg (Db bs (q1+1) 4)
  have vb2:=Ba9 hg (Db bs (q1+1+1) 4)
  have vc1:=Ba9 hdg (Db bs (q1+1) 4)
  have vc2:=Ba9 hdg (Db bs (q1+1+1) 4)
  clear tk k40
  generalize Yi b (Db bs (q1+1) 4)=B1 at*
  generalize Yi b (Db bs (q1+1+1) 4)=B2 at*
  generalize Yi b1 (Db bs (q1+1) 4)=C1 at*
  generalize Yi b1 (Db bs (q1+1+1) 4)=C2 at*
  by_cases f:ts.getD 0 []=[70,76,85,83,72]
  ·by_cases f4:Db bs q1 4=0
   ·by_cases f6:Db bs (q1+1) 6=0
    ·rcases hc with rfl| ⟨rfl,hn⟩
     ·simp(maxSteps:=1000000) [Cq,Dj,D9,D5,Dn,Fa,Dp,Cw,Cs,D8,Dm,F5,-List.getD_eq_getElem?_getD,-List.map_map,Pf,g0,g2,g3,g4,ho,fz,hd,g,c0,c1,cn,w,w',eq_true f,pk4,pk61,pk461,f4,f6,tkc2]
      exact⟨n,by omega,C2,_,q1+1+1+1,vc2, .inl rfl,rfl,rfl,rfl,rfl,rfl,by omega,by omega,by omega⟩
     ·obtain⟨now,ents⟩:=b
      dsimp only at hn
      subst hn
      simp(maxSteps:=1000000) [Cq,Dj,D9,D5,Dn,Fa,Dp,Cw,Cs,D8,Dm,F5,-List.getD_eq_getElem?_getD,-List.map_map,Pf,g0,g2,g3,g4,ho,fz,hd,g,c0,c1,cn,w,w',eq_true f,pk4,pk61,pk461,f4,f6,tkc2,F9]
      exact⟨n,by omega,C2,_,q1+1+1+1,vc2, .inl rfl,rfl,rfl,rfl,rfl,rfl,by omega,by omega,by omega⟩
    ·rcases hc with rfl| ⟨rfl,hn⟩
     ·simp(maxSteps:=1000000) [Cq,Dj,D9,D5,Dn,Fa,Dp,Cw,Cs,D8,Dm,F5,-List.getD_eq_getElem?_getD,-List.map_map,Pf,g0,g2,g3,g4,ho,fz,hd,g,c0,c1,cn,w,w',eq_true f,pk4,pk61,f4,f6]
      exact⟨n,by omega,b1,_,q1+1+1,hdg, .inl rfl,rfl,rfl,rfl,rfl,rfl,by omega,by omega,by omega⟩
     ·obtain⟨now,ents⟩:=b
      dsimp only at hn
      subst hn
      simp(maxSteps:=1000000) [Cq,Dj,D9,D5,Dn,Fa,Dp,Cw,Cs,D8,Dm,F5,-List.getD_eq_getElem?_getD,-List.map_map,Pf,g0,g2,g3,g4,ho,fz,hd,g,c0,c1,cn,w,w',eq_true f,pk4,pk61,f4,f6,F9]
      exact⟨n,by omega,b1,_,q1+1+1,hdg, .inl rfl,rfl,rfl,rfl,rfl,rfl,by omega,by omega,by omega⟩
   ·by_cases f6:Db bs (q1+1) 6=0
    ·rcases hc with rfl| ⟨rfl,hn⟩
     ·simp(maxSteps:=1000000) [Cq,Dj,D9,D5,Dn,Fa,Dp,Cw,Cs,D8,Dm,F5,-List.getD_eq_getElem?_getD,-List.map_map,Pf,g0,g2,g3,g4,ho,fz,g,c0,c1,cn,w,w',eq_true f,pk4,pk61,pk461,f4,f6,tkb2]
      exact⟨n,by omega,B2,_,q1+1+1+1,vb2, .inl rfl,rfl,rfl,rfl,rfl,rfl,by omega,by omega,by omega⟩
     ·obtain⟨now,ents⟩:=b
      dsimp only at hn
      subst hn
      simp(maxSteps:=1000000) [Cq,Dj,D9,D5,Dn,Fa,Dp,Cw,Cs,D8,Dm,F5,-List.getD_eq_getElem?_getD,-List.map_map,Pf,g0,g2,g3,g4,ho,fz,g,c0,c1,cn,w,w',eq_true f,pk4,pk61,pk461,f4,f6,tkb2,F9]
      exact⟨n,by omega,B2,_,q1+1+1+1,vb2, .inl rfl,rfl,rfl,rfl,rfl,rfl,by omega,by omega,by omega⟩
    ·simp(maxSteps:=1000000) [Cq,Dj,D9,D5,Dn,Fa,Dp,Cw,Cs,D8,Dm,F5,-List.getD_eq_getElem?_getD,-List.map_map,Pf,g0,g2,g3,g4,ho,fz,g,c0,c1,cn,w,w',eq_true f,pk4,pk61,f4,f6]
     exact⟨n,by omega,b,c,q1+1+1,hg,hc,rfl,rfl,rfl,rfl,rfl,by omega,by omega,by omega⟩
  ·by_cases f6:Db bs q1 6=0
   ·rcases hc with rfl| ⟨rfl,hn⟩
    ·simp(maxSteps:=1000000) [Cq,Dj,D9,D5,Dn,Fa,Dp,Cw,Cs,D8,Dm,F5,-List.getD_eq_getElem?_getD,-List.map_map,Pf,g0,g2,g3,g4,ho,fz,hd,g,c0,c1,cn,w,w',eq_false f,pk6,pk46,f6,tkc1]
     exact⟨n,by omega,C1,_,q1+1+1,vc1, .inl rfl,rfl,rfl,rfl,rfl,rfl,by omega,by omega,by omega⟩
    ·obtain⟨now,ents⟩:=b
     dsimp only at hn
     subst hn
     simp(maxSteps:=1000000) [Cq,Dj,D9,D5,Dn,Fa,Dp,Cw,Cs,D8,Dm,F5,-List.getD_eq_getElem?_getD,-List.map_map,Pf,g0,g2,g3,g4,ho,fz,hd,g,c0,c1,cn,w,w',eq_false f,pk6,pk46,f6,tkc1,F9]
     exact⟨n,by omega,C1,_,q1+1+1,vc1, .inl rfl,rfl,rfl,rfl,rfl,rfl,by omega,by omega,by omega⟩
   ·rcases hc with rfl| ⟨rfl,hn⟩
    ·simp(maxSteps:=1000000) [Cq,Dj,D9,D5,Dn,Fa,Dp,Cw,Cs,D8,Dm,F5,-List.getD_eq_getElem?_getD,-List.map_map,Pf,g0,g2,g3,g4,ho,fz,hd,g,c0,c1,cn,w,w',eq_false f,pk6,f6]
     exact⟨n,by omega,b1,_,q1+1,hdg, .inl rfl,rfl,rfl,rfl,rfl,rfl,by omega,by omega,by omega⟩
    ·obtain⟨now,ents⟩:=b
     dsimp only at hn
     subst hn
     simp(maxSteps:=1000000) [Cq,Dj,D9,D5,Dn,Fa,Dp,Cw,Cs,D8,Dm,F5,-List.getD_eq_getElem?_getD,-List.map_map,Pf,g0,g2,g3,g4,ho,fz,hd,g,c0,c1,cn,w,w',eq_false f,pk6,f6,F9]
     exact⟨n,by omega,b1,_,q1+1,hdg, .inl rfl,rfl,rfl,rfl,rfl,rfl,by omega,by omega,by omega⟩
def xk (m:Nat):Bl:=120::Qo m
theorem Bl2 (m:Nat) (h1:10≤m) (h2:m<100):xk m=[120,UInt8.ofNat (48+m / 10),UInt8.ofNat (48+m % 10)]:=by
 unfold xk Qo
 rw[if_neg (by omega),Int.toNat_natCast,C9,dif_neg (by omega),C9,dif_pos (by omega)]
 rfl
theorem B0j {m n:Nat} (h1:10≤m) (h2:m<100) (h3:10≤n) (h4:n<100) (h:xk m=xk n):m=n:=by
 rw[Bl2 m h1 h2,Bl2 n h3 h4] at h
 simp only[List.cons.injEq,true_and,and_true] at h
 obtain⟨a,b⟩:=h
 have a:=congrArg UInt8.toNat a
 have b:=congrArg UInt8.toNat b
 simp only[UInt8.toNat_ofNat'] at a b
 omega
def Tk (n:Nat) (e:En):Bool:=(List.range 40).all fun m=> !(decide (n≤m) &&decide (e.key=xk m))
theorem Yf (n:Nat) (e:En):Tk n e=true↔∀m,n≤m→m<40→e.key≠xk m:=by
 unfold Tk
 rw[List.all_eq_true]
 constructor
 ·intro h m h1 h2 h3
  have:=h m (List.mem_range.2 h2)
  simp[h1,h3] at this
 ·intro h m hm
  have hm:=List.mem_range.1 hm
  by_cases h1:n≤m
  ·simp[h1,h m h1 hm]
  ·simp[h1]
theorem Bpc {n:Nat} {e:En} (h:Tk n e=true):Tk (n+1) e=true:=(Yf _ _).2 fun m h1 h2=> (Yf _ _).1 h m (by omega) h2
theorem Bj0 (p:En→Bool) (es:List En) (k:Nat) (hk:k<es.length) (hp:p (es.getD k default)=false): (Mx es k).countP p=es.countP p:=by
 have h:es=es.take k++es.getD k default::es.drop (k+1):=by rw[←Bgq es k default hk,List.take_append_drop]
 conv=>rhs;rw[h]
 unfold Mx
 rw[List.countP_append,List.countP_append,List.countP_cons_of_neg (by rw[hp];simp)]
theorem Bt8 (n:Nat) (h1:10≤n) (h2:n<40):Kw ⟨xk n,0,1,[],[],[],[]⟩=true:=by
 rw[Bl2 n h1 (by omega)]
 rfl
theorem Bsf {b:Ba} (n:Nat) (h1:10≤n) (h2:n<40) (hl:b.ents.length<12):b.ents.countP (Tk n)+1≤(Rx b ⟨xk n,0,1,[],[],[],[]⟩).1.ents.countP (Tk (n+1)):=by
 have hd: (Jl b (xk n)).ents.length<12:=by have:=X7 b (xk n);omega
 have hp:Rx b ⟨xk n,0,1,[],[],[],[]⟩=(⟨b.now,J2 (Jl b (xk n)).ents (Y2 (Jl b (xk n)).ents (xk n)) ⟨xk n,0,1,[],[],[],[]⟩⟩,true):=by
  unfold Rx
  rw[if_neg (by simp[Bfc]),if_pos (by unfold Bfm;rw[Bt8 n h1 h2];simp[hd])]
 rw[hp]
 have hs:Tk (n+1) ⟨xk n,0,1,[],[],[],[]⟩=true:=(Yf _ _).2 fun m a c h=>by have:=B0j h1 (by omega) (by omega) (by omega) h;omega
 dsimp only
 unfold J2
 rw[List.countP_append,List.countP_cons_of_pos hs]
 have h3: ((Jl b (xk n)).ents.take (Y2 (Jl b (xk n)).ents (xk n))).countP (Tk (n+1))+((Jl b (xk n)).ents.drop (Y2 (Jl b (xk n)).ents (xk n))).countP (Tk (n+1))=(Jl b (xk n)).ents.countP (Tk (n+1)):=by
  rw[←List.countP_append,List.take_append_drop]
 have h4: (Jl b (xk n)).ents.countP (Tk n)≤(Jl b (xk n)).ents.countP (Tk (n+1)):=List.countP_mono_left fun e _ h=>Bpc h
 have h5: (Jl b (xk n)).ents.countP (Tk n)=b.ents.countP (Tk n):=by
  unfold Jl
  split
  ·rename_i hh
   refine Bj0 _ _ _ (Xw hh) ?_
   unfold Xv at hh
   simp only[Bool.and_eq_true,decide_eq_true_eq] at hh
   cases hse:Tk n (b.ents.getD (Y2 b.ents (xk n)) default) with
   |false=>rfl
   |true=>exact absurd hh.2 ((Yf _ _).1 hse n (Nat.le_refl _) h2)
  ·rfl
 omega
def XI (H:Hp) (r:Nat) (bs:List Int) (A:Ev.Obj) (q:Int) (j:Nat) (e:Env) (X:Hp):Prop:=
 ∃ (b:Ba) (c:V) (n:Nat),BaG b∧Bl6 c b∧X=rh H r bs q [A, .row 0 2 [c]]∧e.get 2= .ptr (Bc H) 0 0 0∧e.get 3= .ptr (Bc H+1) 0 0 0∧e.get 6= .d (.int .i64 n)∧n+j=22∧10≤n∧n - 10≤b.ents.countP (Tk n)
def XE (H:Hp) (r:Nat) (bs:List Int) (A:Ev.Obj) (q:Int) (o:Out) (e:Env) (X:Hp):Prop:=
 o= .exit 2∧∃ (b:Ba) (c:V),BaG b∧Bl6 c b∧X=rh H r bs q [A, .row 0 2 [c]]∧e.get 2= .ptr (Bc H) 0 0 0∧e.get 3= .ptr (Bc H+1) 0 0 0
theorem B1g (H:Hp) (r:Nat) (bs:List Int) (A:Ev.Obj) (q:Int) (j:Nat) (e:Env) (X:Hp) (hI:XI H r bs A q j e X):
  Gives (XE H r bs A q) (Bg (Bp (ev R) R.glob (Bc H) Bg Bdz) [2,3,6] ⟨e,X⟩):=by
 refine Bb6 (F:=Bp (ev R) R.glob (Bc H) Bg Bdz) (lv:=[2,3,6]) (XI H r bs A q) (XE H r bs A q) ?_ j e X hI
 show ∀n e X,XI H r bs A q n e X→Gives (Bba (Nxt (XI H r bs A q) n) (XE H r bs A q)) _
 rintro j e X ⟨b,c,n,hg,hc,rfl,g2,g3,g6,hn,h10,hcnt⟩
 have hle:=List.countP_le_length (p:=Tk n) (l:=b.ents)
 by_cases hl:b.ents.length<12
 ·have hj:0<j:=by omega
  have hl': (b.ents.length:Int)<12:=by omega
  have p1:=Bvh (n:Int) (by omega)
  have he:EnQ ⟨xk n,0,1,[],[],[],[]⟩:=Bbi (Bt8 n h10 (by omega))
  have p2:=B2o b ⟨xk n,0,1,[],[],[],[]⟩ hg.sm he.sm he.fit
  have hpg:=Bm4 hg ⟨xk n,0,1,[],[],[],[]⟩
  have hpm:=Bsf n h10 (by omega) hl
  have dl:=he.key
  dsimp only at dl
  have sr:1+(Qo n).length≤Bu:=by unfold xk at dl;rw[List.length_cons] at dl;unfold Bu;omega
  have w:IntKind.i64.wrap ((n:Int)+1)=(n:Int)+1:=IntWalk.i64_in _ (by omega)
  unfold xk at p2 hpg hpm
  generalize Rx b ⟨120::Qo n,0,1,[],[],[],[]⟩=P at*
  obtain⟨b1,ok⟩:=P
  dsimp only at*
  rcases hc with rfl| ⟨rfl,hz⟩
  ·simp(maxSteps:=1000000) [Cq,Dj,D9,D5,Dn,Fa,Dp,Cw,Cs,D8,Dm,F5,-List.getD_eq_getElem?_getD,-List.map_map,Bdz,g2,g3,g6,hl',hl,p1,p2,sr,w]
   exact⟨j - 1,by omega,b1,_,n+1,hpg, .inl rfl,rfl,rfl,rfl,rfl,by omega,by omega,by omega⟩
  ·obtain⟨now,ents⟩:=b
   dsimp only at hz
   subst hz
   simp(maxSteps:=1000000) [Cq,Dj,D9,D5,Dn,Fa,Dp,Cw,Cs,D8,Dm,F5,-List.getD_eq_getElem?_getD,-List.map_map,Bdz,g2,g3,g6,p1,p2,sr,w,F9]
   exact⟨j - 1,by omega,b1,_,n+1,hpg, .inl rfl,rfl,rfl,rfl,rfl,by omega,by omega,by omega⟩
 ·have hl': ¬ (b.ents.length:Int)<12:=by omega
  rcases hc with rfl| ⟨rfl,hz⟩
  ·simp(maxSteps:=1000000) [Cq,Dj,D9,D5,Dn,Fa,Dp,Cw,Cs,D8,Dm,F5,-List.getD_eq_getElem?_getD,-List.map_map,Bdz,g2,g3,g6,hl',hl]
   exact⟨rfl,b,_,hg, .inl rfl,rfl,rfl,rfl⟩
  ·rw[hz] at hl
   simp at hl
theorem B3p (H:Hp) (r:Nat) (bs:List Int) (p:Int) (h:Ci H r=some (rd bs p)) (hb:Dl bs) (hp:0≤p) (hp2:p≤10000000):
  ∃ (b:Ba) (q:Int),ev R 36 [.ptr r 0 0 0] H=some (.d (D6 b),Bv H r (rd bs q))∧BaG b∧p≤q∧q≤p+600:=by
 have hr:=Fh h
 have hH:=Bla H r bs h
 have o1:=fun l=>Blb (H:=H) (l:=l) (r:=r) (bs:=bs) (q:=p) [0,0,10,1000000] hr hb hp (by omega) (by simp) (by simp)
 have om:=X0 bs p [0,0,10,1000000] hb hp (by omega) (by simp)
 generalize Bfo bs p [0,0,10,1000000]=now at*
 simp only[Bn6,List.map_cons,List.map_nil] at o1
 have hnow:0≤now∧now≤1000000:=by
  simp only[List.mem_cons,List.not_mem_nil,or_false] at om
  omega
 have p14:=fun l=>Ky (H:=H) (l:=l) (r:=r) (bs:=bs) (q:=p+1) 14 hr hb (by omega) (by omega)
 obtain⟨k0,k1⟩:=Gp bs (p+1) 14 hb (by omega) (by omega)
 have k1:=k1 (by omega)
 generalize Db bs (p+1) 14=k at*
 obtain⟨k,rfl⟩:=Int.eq_ofNat_of_zero_le k0
 obtain⟨o,e',X',he,rfl,b,c,q,hg,hc,rfl,g0,g2,g3,q1,q2⟩:=(B3x H r bs (.row 0 2 [.agg [.d (.int .i64 0), .nils 7]]) (p+1+1) hr hb (by omega) (by omega) k
  [(0, .ptr r 0 0 0),(2, .ptr (Bc H) 0 0 0),(3, .ptr (Bc H+1) 0 0 0),(4, .d (.int .i64 k))] (rh H r bs (p+1+1) [.row 0 2 [.agg [.d (.int .i64 0), .nils 7]], .row 0 2 [.agg [.d (.int .i64 now), .nils 7]]])
  ⟨⟨now,[]⟩,_,p+1+1,⟨by simp,by simp,by dsimp only;omega⟩, .inr ⟨rfl,rfl⟩,rfl,rfl,rfl,rfl,rfl,by omega,by omega,by omega⟩).out
 have p30:=fun l=>Ky (H:=H) (l:=l) (r:=r) (bs:=bs) (q:=q) 30 hr hb (by omega) (by omega)
 by_cases f:Db bs q 30=0
 ·obtain⟨o2,e2,X2,he2,rfl,b2,c2,hg2,hc2,rfl,m2,m3⟩:=(B1g H r bs (.row 0 2 [.agg [.d (.int .i64 0), .nils 7]]) (q+1) 12
   [(2, .ptr (Bc H) 0 0 0),(3, .ptr (Bc H+1) 0 0 0),(6, .d (.int .i64 10))] (rh H r bs (q+1) [.row 0 2 [.agg [.d (.int .i64 0), .nils 7]], .row 0 2 [c]])
   ⟨b,c,10,hg,hc,rfl,rfl,rfl,rfl,by omega,by omega,by omega⟩).out
  refine⟨b2,q+1, ?_,hg2,by omega,by omega⟩
  conv=>lhs;rw[hH]
  refine Bo (fn:=f36) rfl rfl ?_
  rcases hc2 with rfl| ⟨rfl,hz⟩
  ·simp(maxSteps:=1000000) [Cq,Dj,D9,D5,Dn,Fa,Dp,Cw,Cs,D8,Dm,F5,-List.getD_eq_getElem?_getD,-List.map_map,f36,o1,p14,he,g0,g2,g3,p30,f,he2,m2,m3]
  ·obtain⟨now2,ents⟩:=b2
   dsimp only at hz
   subst hz
   simp(maxSteps:=1000000) [Cq,Dj,D9,D5,Dn,Fa,Dp,Cw,Cs,D8,Dm,F5,-List.getD_eq_getElem?_getD,-List.map_map,f36,o1,p14,he,g0,g2,g3,p30,f,he2,m2,m3,F9]
 ·refine⟨b,q+1, ?_,hg,by omega,by omega⟩
  conv=>lhs;rw[hH]
  refine Bo (fn:=f36) rfl rfl ?_
  rcases hc with rfl| ⟨rfl,hz⟩
  ·simp(maxSteps:=1000000) [Cq,Dj,D9,D5,Dn,Fa,Dp,Cw,Cs,D8,Dm,F5,-List.getD_eq_getElem?_getD,-List.map_map,f36,o1,p14,he,g0,g2,g3,p30,f]
  ·obtain⟨now2,ents⟩:=b
   dsimp only at hz
   subst hz
   simp(maxSteps:=1000000) [Cq,Dj,D9,D5,Dn,Fa,Dp,Cw,Cs,D8,Dm,F5,-List.getD_eq_getElem?_getD,-List.map_map,f36,o1,p14,he,g0,g2,g3,p30,f,F9]
structure BaL (b:Ba):Prop where
 len:b.ents.length≤13
 each: ∀e∈b.ents,EnQ e
 now: -1≤b.now∧b.now≤2000000
theorem BaL.sm {b:Ba} (h:BaL b):BaSm b:=⟨by have:=h.len;omega,fun e he=> (h.each e he).sm⟩
theorem BaL.fit {b:Ba} (h:BaL b):BaFit b:=⟨by have:=h.now;exact⟨by omega,by omega⟩,by have:=h.len;omega,fun e he=> (h.each e he).fit⟩
theorem BaG.l {b:Ba} (h:BaG b):BaL b:=⟨by have:=h.len;omega,fun e he=>Bbi (h.each e he),by have:=h.now;omega⟩
theorem Bni (n:Int) (e:En):D.agg [.int .i64 n, .vals 7 [Nf e]]=D6 ⟨n,[e]⟩:=rfl
theorem Bq3 (e:En) (z:Int):D.agg [.str e.key, .int .i64 e.till, .int .i64 z, .str e.text, .vals 1 (e.list.map D.str),Fw e.scores,Jw e.fields]=Nf ⟨e.key,e.till,z,e.text,e.list,e.scores,e.fields⟩:=rfl
def B0q (H:Hp) (r:Nat) (bs:List Int) (p:Int):Prop:=
 ∃ (b:Ba) (q:Int),ev R 23 [.ptr r 0 0 0] H=some (.d (D6 b),Bv H r (rd bs q))∧BaL b∧p≤q∧q≤p+700
theorem B3l (H:Hp) (r:Nat) (bs:List Int) (p:Int) (h:Ci H r=some (rd bs p)) (hb:Dl bs) (hp:0≤p) (hp2:p≤10000000):B0q H r bs p:=by
 have hr:=Fh h
 have hH:=Bla H r bs h
 have bl: ∀l,∃ (b:Ba) (q:Int),ev R 36 [.ptr r 0 0 0] (rh H r bs p l)=some (.d (D6 b),Bv (rh H r bs p l) r (rd bs q))∧BaG b∧p≤q∧q≤p+600:=fun l=>B3p _ r bs p (Biq H l r bs p hr) hb hp hp2
 obtain⟨⟨now,es⟩,q,e0,hg,q1,q2⟩:=bl [.row 0 2 [.agg [.d (.int .i64 0), .nils 7]]]
 rw[Bf0 H _ r bs p hr] at e0
 clear bl
 have p16:=fun l=>Ky (H:=H) (l:=l) (r:=r) (bs:=bs) (q:=q) 16 hr hb (by omega) (by omega)
 have hL:=hg.l
 by_cases hes:es=[]
 ·subst hes
  have p0: ∀X,ev R 35 [.d (D6 ⟨now,[]⟩)] X=some (.agg [.d (.int .i64 now), .nils 7],X):=fun X=>Bnt ⟨now,[]⟩ hg.sm.len hg.sm.each X
  by_cases c0:Db bs q 16=0
  ·have o1:=fun l=>Blb (H:=H) (l:=l) (r:=r) (bs:=bs) (q:=q+1) [-1,1000001,50] hr hb (by omega) (by omega) (by simp) (by simp)
   have om:=X0 bs (q+1) [-1,1000001,50] hb (by omega) (by omega) (by simp)
   generalize Bfo bs (q+1) [-1,1000001,50]=z at*
   simp only[Bn6,List.map_cons,List.map_nil] at o1
   refine⟨⟨z,[]⟩,q+1+1, ?_,⟨by simp,by simp,by simp only[List.mem_cons,List.not_mem_nil,or_false] at om;dsimp only;omega⟩,by omega,by omega⟩
   conv=>lhs;rw[hH]
   refine Bo (fn:=f23) rfl rfl ?_
   simp(maxSteps:=1000000) [Cq,Dj,D9,D5,Dn,Fa,Dp,Cw,Cs,D8,Dm,F5,-List.getD_eq_getElem?_getD,-List.map_map,f23,e0,p0,p16,c0,o1,F9]
  by_cases c1:Db bs q 16=1
  ·refine⟨⟨now,[]⟩,q+1, ?_,hL,by omega,by omega⟩
   conv=>lhs;rw[hH]
   refine Bo (fn:=f23) rfl rfl ?_
   simp(maxSteps:=1000000) [Cq,Dj,D9,D5,Dn,Fa,Dp,Cw,Cs,D8,Dm,F5,-List.getD_eq_getElem?_getD,-List.map_map,f23,e0,p0,p16,c1,F9]
  by_cases c2:Db bs q 16=2
  ·have o1:=fun l=>Bm6 (H:=H) (l:=l) (r:=r) (bs:=bs) (q:=q+1) [[],[122,122],[97]] hr hb (by omega) (by omega) (by simp)
   have om:=Ud bs (q+1) [[],[122,122],[97]] 40 (by simp)
   generalize ofV bs (q+1) [[],[122,122],[97]]=z at*
   simp only[Bf,List.map_cons,List.map_nil] at o1
   have eq:EnQ ⟨z,0,1,[],[],[],[]⟩:=⟨by dsimp only;omega,by simp,by simp,by simp,by simp,by simp,by simp,by simp,by simp,by simp⟩
   refine⟨⟨now,[⟨z,0,1,[],[],[],[]⟩]⟩,q+1+1, ?_,⟨by simp,by simpa using eq,hL.now⟩,by omega,by omega⟩
   conv=>lhs;rw[hH]
   refine Bo (fn:=f23) rfl rfl ?_
   have rm: (120:Nat)≤Cx:=by unfold Cx;omega
   simp(maxSteps:=1000000) [Cq,Dj,D9,D5,Dn,Fa,Dp,Cw,Cs,D8,Dm,F5,-List.getD_eq_getElem?_getD,-List.map_map,f23,e0,p0,p16,c2,o1,Bni,rm]
  ·refine⟨⟨now,[]⟩,q+1, ?_,hL,by omega,by omega⟩
   conv=>lhs;rw[hH]
   refine Bo (fn:=f23) rfl rfl ?_
   simp(maxSteps:=1000000) [Cq,Dj,D9,D5,Dn,Fa,Dp,Cw,Cs,D8,Dm,F5,-List.getD_eq_getElem?_getD,-List.map_map,f23,e0,p0,p16,eq_false c0,eq_false c1,eq_false c2,F9]
 ·have p0: ∀X,ev R 35 [.d (D6 ⟨now,es⟩)] X=some (.agg [.d (.int .i64 now), .slc (Bc X) 0 0 es.length],ap X [.row 0 7 ((es.map Nf).map V.d)]):=fun X=>by
   rw[Bnt ⟨now,es⟩ hg.sm.len hg.sm.each X]
   cases es with
   |nil=>exact absurd rfl hes
   |cons z r=>rfl
  have hl:=hg.len
  dsimp only at hl
  have l0:0<es.length:=List.length_pos_iff.2 hes
  have l1: (0:Int)< (es.length:Int):=by omega
  have ft:List.take es.length ((es.map Nf).map V.d)=(es.map Nf).map V.d:=List.take_of_length_le (by simp)
  by_cases c0:Db bs q 16=0
  ·have o1:=fun l=>Blb (H:=H) (l:=l) (r:=r) (bs:=bs) (q:=q+1) [-1,1000001,50] hr hb (by omega) (by omega) (by simp) (by simp)
   have om:=X0 bs (q+1) [-1,1000001,50] hb (by omega) (by omega) (by simp)
   generalize Bfo bs (q+1) [-1,1000001,50]=z at*
   simp only[Bn6,List.map_cons,List.map_nil] at o1
   refine⟨⟨z,es⟩,q+1+1, ?_,⟨hL.len,hL.each,by simp only[List.mem_cons,List.not_mem_nil,or_false] at om;dsimp only;omega⟩,by omega,by omega⟩
   conv=>lhs;rw[hH]
   refine Bo (fn:=f23) rfl rfl ?_
   simp(maxSteps:=1000000) [Cq,Dj,D9,D5,Dn,Fa,Dp,Cw,Cs,D8,Dm,F5,-List.getD_eq_getElem?_getD,-List.map_map,f23,e0,p0,p16,c0,o1,ft]
  by_cases c1:Db bs q 16=1
  ·have o1:=fun l=>Ky (H:=H) (l:=l) (r:=r) (bs:=bs) (q:=q+1) es.length hr hb (by omega) (by omega)
   have o2:=fun l=>Ky (H:=H) (l:=l) (r:=r) (bs:=bs) (q:=q+1+1) 7 hr hb (by omega) (by omega)
   obtain⟨k0,k1⟩:=Gp bs (q+1) es.length hb (by omega) (by omega)
   obtain⟨k2,k3⟩:=Gp bs (q+1+1) 7 hb (by omega) (by omega)
   have k1:=k1 (by omega)
   have k3:=k3 (by omega)
   generalize Db bs (q+1) es.length=i at*
   generalize Db bs (q+1+1) 7=kd at*
   obtain⟨i,rfl⟩:=Int.eq_ofNat_of_zero_le k0
   have hi:i<es.length:=by omega
   have hm:es[i]∈es:=List.getElem_mem hi
   have hq:=hL.each _ hm
   obtain⟨E,g⟩: ∃E,es[i]=E:=⟨_,rfl⟩
   rw[g] at hm hq
   have sf:=Bcy Nf es i ⟨E.key,E.till,kd,E.text,E.list,E.scores,E.fields⟩
   have sl: (es.set i ⟨E.key,E.till,kd,E.text,E.list,E.scores,E.fields⟩).length=es.length:=List.length_set
   have ee:EnQ ⟨E.key,E.till,kd,E.text,E.list,E.scores,E.fields⟩:=⟨hq.key,hq.text,hq.list,hq.lists,hq.scores,hq.scoress,hq.fields,hq.fieldss,hq.till,by dsimp only;omega⟩
   have em: ∀e∈es.set i ⟨E.key,E.till,kd,E.text,E.list,E.scores,E.fields⟩,EnQ e:=fun e he=>by
    rcases List.mem_or_eq_of_mem_set he with h1|h1
    ·exact hL.each e h1
    ·rw[h1];exact ee
   generalize es.set i ⟨E.key,E.till,kd,E.text,E.list,E.scores,E.fields⟩=ES at*
   have ft2:List.take es.length ((ES.map Nf).map V.d)=(ES.map Nf).map V.d:=List.take_of_length_le (by simp[sl])
   refine⟨⟨now,ES⟩,q+1+1+1, ?_,⟨by dsimp only;omega,em,hL.now⟩,by omega,by omega⟩
   conv=>lhs;rw[hH]
   refine Bo (fn:=f23) rfl rfl ?_
   simp(maxSteps:=1000000) [Cq,Dj,D9,D5,Dn,Fa,Dp,Cw,Cs,D8,Dm,F5,-List.getD_eq_getElem?_getD,-List.map_map,f23,e0,p0,p16,c1,o1,o2,l0,l1,hi,k1,g,sf,sl,ft2,Bq3]
  by_cases c2:Db bs q 16=2
  ·have o1:=fun l=>Bm6 (H:=H) (l:=l) (r:=r) (bs:=bs) (q:=q+1) [[],[122,122],[97]] hr hb (by omega) (by omega) (by simp)
   have om:=Ud bs (q+1) [[],[122,122],[97]] 40 (by simp)
   generalize ofV bs (q+1) [[],[122,122],[97]]=z at*
   simp only[Bf,List.map_cons,List.map_nil] at o1
   have eq:EnQ ⟨z,0,1,[],[],[],[]⟩:=⟨by dsimp only;omega,by simp,by simp,by simp,by simp,by simp,by simp,by simp,by simp,by simp⟩
   obtain⟨ES,hES⟩: ∃ES,ES=es++[(⟨z,0,1,[],[],[],[]⟩:En)]:=⟨_,rfl⟩
   have sf:List.map V.d (List.map Nf es)++[V.d (Nf ⟨z,0,1,[],[],[],[]⟩)]=List.map V.d (List.map Nf ES):=by rw[hES];simp
   have sl:ES.length=es.length+1:=by rw[hES];simp
   have em: ∀e∈ES,EnQ e:=fun e he=>by
    rw[hES] at he
    simp only[List.mem_append,List.mem_singleton] at he
    rcases he with h1|h1
    ·exact hL.each e h1
    ·rw[h1];exact eq
   refine⟨⟨now,ES⟩,q+1+1, ?_,⟨by dsimp only;omega,em,hL.now⟩,by omega,by omega⟩
   conv=>lhs;rw[hH]
   refine Bo (fn:=f23) rfl rfl ?_
   have rm: (es.length+1)*120≤Cx:=by unfold Cx;omega
   have ft2:List.take (es.length+1) ((ES.map Nf).map V.d)=(ES.map Nf).map V.d:=List.take_of_length_le (by simp[sl])
   simp(maxSteps:=1000000) [Cq,Dj,D9,D5,Dn,Fa,Dp,Cw,Cs,D8,Dm,F5,-List.getD_eq_getElem?_getD,-List.map_map,f23,e0,p0,p16,c2,o1,rm,sf,sl,ft2]
  ·refine⟨⟨now,es⟩,q+1, ?_,hL,by omega,by omega⟩
   conv=>lhs;rw[hH]
   refine Bo (fn:=f23) rfl rfl ?_
   simp(maxSteps:=1000000) [Cq,Dj,D9,D5,Dn,Fa,Dp,Cw,Cs,D8,Dm,F5,-List.getD_eq_getElem?_getD,-List.map_map,f23,e0,p0,p16,eq_false c0,eq_false c1,eq_false c2,ft]
end Go.Proofs.YtedlandcnpjghaaGreatDoor.Code

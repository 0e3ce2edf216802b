/- Lemmas (several texts in one). -/
import Derived.Test.YtjdmiodinhlchaaGreatMBasePut7
import Derived.Test.YtjdmiodinhlchaaGreatMBasePut20
import Derived.Test.YtjdmiodinhlchaaGreatMBasePut22
import Derived.Test.YtjdmiodinhlchaaGreatMBasePut23
set_option maxRecDepth 100000
set_option maxHeartbeats 4000000
set_option linter.unusedSimpArgs false
set_option linter.unusedVariables false
namespace Go.Proofs.YtjdmiodinhlchaaGreat.Code
open Go Go.Ev Go.Proofs
theorem Bmk (c:UInt8): ∀ (n:Nat) (s out:Bp),c∈Sg s n out→c∈s∨c∈out:=by
 intro n
 induction n using Nat.strongRecOn with
 |ind n ih=>
  intro s out h
  unfold Sg at h
  split at h
  ·exact .inr h
  ·have:=ih (n / 2) (by omega) _ _ h
   rcases this with h|h
   ·rw[List.mem_append] at h
    exact .inl (by rcases h with h|h<;>exact h)
   ·split at h
    ·rw[List.mem_append] at h
     exact h.symm
    ·exact .inr h
theorem Bh6 (bs:List Int) (p:Int): ¬110∈Lh bs p∧¬102∈Lh bs p:=by
 unfold Lh ofV
 by_cases hi: (Cr bs p Kz.length).toNat<Kz.length
 ·rw[List.getD_eq_getElem?_getD,List.getElem?_eq_getElem hi]
  have hm:=List.getElem_mem hi
  generalize Kz[(Cr bs p Kz.length).toNat]=x at hm
  simp only[Option.getD_some,Kz,List.mem_cons,List.not_mem_nil,or_false] at hm⊢
  have h1: ¬ (110:UInt8)∈Sg [120] 40 []:=fun h=>by have:=Bmk _ _ _ _ h;simp at this
  have h2: ¬ (102:UInt8)∈Sg [120] 40 []:=fun h=>by have:=Bmk _ _ _ _ h;simp at this
  rcases hm with rfl|rfl|rfl|rfl|rfl|rfl|rfl|rfl|rfl|rfl|rfl<;>first|exact⟨h1,h2⟩ |simp
 ·rw[List.getD_eq_getElem?_getD,List.getElem?_eq_none (by omega)]
  simp
def nk (c:UInt8) (m:Nat):Bp:=c::K5 m
theorem Bbl (c:UInt8) (m:Nat) (h:m<10):nk c m=[c,UInt8.ofNat (48+m)]:=by
 unfold nk K5
 rw[if_neg (by omega),Int.toNat_natCast,Qf,dif_pos h]
theorem Bbm (c:UInt8) (m:Nat) (h1:10≤m) (h2:m<100):nk c m=[c,UInt8.ofNat (48+m / 10),UInt8.ofNat (48+m % 10)]:=by
 unfold nk K5
 rw[if_neg (by omega),Int.toNat_natCast,Qf,dif_neg (by omega),Qf,dif_pos (by omega)]
 rfl
theorem Bzi (c:UInt8) {m n:Nat} (h2:m<100) (h4:n<100) (h:nk c m=nk c n):m=n:=by
 by_cases a:m<10<;>by_cases b:n<10
 ·rw[Bbl c m a,Bbl c n b] at h
  simp only[List.cons.injEq,true_and,and_true] at h
  have h:=congrArg UInt8.toNat h
  simp only[UInt8.toNat_ofNat'] at h
  omega
 ·rw[Bbl c m a,Bbm c n (by omega) h4] at h;simp at h
 ·rw[Bbm c m (by omega) h2,Bbl c n b] at h;simp at h
 ·rw[Bbm c m (by omega) h2,Bbm c n (by omega) h4] at h
  simp only[List.cons.injEq,true_and,and_true] at h
  obtain⟨a,b⟩:=h
  have a:=congrArg UInt8.toNat a
  have b:=congrArg UInt8.toNat b
  simp only[UInt8.toNat_ofNat'] at a b
  omega
theorem Ye (c:UInt8) (m:Nat) (h:m<100): (nk c m).length≤3:=by
 by_cases a:m<10
 ·rw[Bbl c m a];simp
 ·rw[Bbm c m (by omega) h];simp
def U3 (c:UInt8) (n:Nat) (t:Bp):Prop:=¬c∈t∨∃j,j<n∧t=nk c j
theorem Beb {c:UInt8} {n:Nat} {t:Bp} (h:U3 c n t) (hn:n<100): ¬t=nk c n:=by
 intro he
 rcases h with h| ⟨j,hj,h⟩
 ·apply h;rw[he];simp[nk]
 ·have:=Bzi c (by omega) hn (h.symm.trans he);omega
theorem Zh {c:UInt8} {n:Nat} {t:Bp} (h:U3 c n t):U3 c (n+1) t:=by
 rcases h with h| ⟨j,hj,h⟩
 ·exact .inl h
 ·exact .inr ⟨j,by omega,h⟩
def Sh (ts:List Bp):Prop:=∀x∈ts,x.length≤41
theorem Sh.q {ts:List Bp} (h:Sh ts) (hl:ts.length≤17):TxQ ts:=⟨by omega,fun x hx=>by have:=h x hx;omega⟩
theorem Sh.snoc {ts:List Bp} (h:Sh ts) {t:Bp} (ht:t.length≤41):Sh (ts++[t]):=fun x hx=>by
 rcases List.mem_append.1 hx with hx|hx
 ·exact h x hx
 ·rw[List.mem_singleton.1 hx];exact ht
theorem By6 (H:Hp) (r:Nat) (bs:List Int) (p most:Int) (h:Ce H r=some (rd bs p)) (hb:Cy bs) (hp:0≤p) (hp2:p≤100000000000) (hm:0≤most∧most≤900) (l:Hp):
  ∃ (ts:List Bp) (q:Int),ev R 101 [.ptr r 0 0 0, .d (.int .i64 most)] (rh H r bs p l)=some (.slc (Bc H+l.length) 0 0 ts.length,rh H r bs q ((l:List Ev.Obj)++[.row 0 1 ((ts.map D.str).map V.d)]))∧p≤q∧q≤p+1+most∧ts.length≤most∧Sh ts:=by
 have hr:=Dy h
 have e:=Bxy (rh H r bs p l) r bs p most (Y6 H l r bs p hr) hb hp hp2 hm
 obtain⟨k0,k1⟩:=Gd bs p (most+1) hb hp (by omega)
 have k1:=k1 (by omega)
 have hl:=K3 bs (Cr bs p (most+1)).toNat (p+1)
 rw[Ps H l r bs p hr,Cc,C8] at e
 generalize hN: (Cr bs p (most+1)).toNat=N at*
 refine⟨F5 bs N (p+1),p+1+N, ?_,by omega,by omega,by rw[hl];omega,fun x hx=>by have:=Jo bs N (p+1) x hx;omega⟩
 rw[hl]
 exact e
def AtI (H:Hp) (r:Nat) (bs:List Int) (q0:Int) (n:Nat) (e:Env) (X:Hp):Prop:=
 ∃ (ts:List Bp) (g:Nat) (q:Int),ts.length+n=17∧Sh ts∧X=rh H r bs q [.row g 1 ((ts.map D.str).map V.d)]∧e.get 0= .ptr r 0 0 0∧e.get 3= .slc (Bc H) g 0 ts.length∧q0≤q∧q+n≤q0+17
def AtE (H:Hp) (r:Nat) (bs:List Int) (q0:Int) (o:Out) (e:Env) (X:Hp):Prop:=
 o= .exit 1∧∃ (ts:List Bp) (g:Nat) (q:Int),ts.length≤17∧Sh ts∧X=rh H r bs q [.row g 1 ((ts.map D.str).map V.d)]∧e.get 3= .slc (Bc H) g 0 ts.length∧q0≤q∧q≤q0+20
theorem B5r (H:Hp) (r:Nat) (bs:List Int) (q0:Int) (hr:r<Bc H) (hb:Cy bs) (h0:0≤q0) (h1:q0≤100000000) (n:Nat) (e:Env) (X:Hp) (hI:AtI H r bs q0 n e X):
  Gives (AtE H r bs q0) (Bg (Bq (ev R) R.glob (Bc H) Bg Bgc) [0,3] ⟨e,X⟩):=by
 refine Le (F:=Bq (ev R) R.glob (Bc H) Bg Bgc) (lv:=[0,3]) (AtI H r bs q0) (AtE H r bs q0) ?_ n e X hI
 show ∀n e X,AtI H r bs q0 n e X→Gives (Ru (Nxt (AtI H r bs q0) n) (AtE H r bs q0)) _
 rintro n e X ⟨ts,g,q,hn,hsh,rfl,g0,g3,q1,q2⟩
 have p2:=fun l=>Gq (H:=H) (l:=l) (r:=r) (bs:=bs) (q:=q) 2 hr hb (by omega) (by omega)
 obtain⟨k0,k1⟩:=Gd bs q 2 hb (by omega) (by omega)
 have k1:=k1 (by omega)
 generalize Cr bs q 2=k at*
 have w:IntKind.i64.wrap (16+k)=16+k:=IntWalk.i64_in _ (by omega)
 have p1:=Bkm (ts.length:Int) (by omega)
 have nl:=Ye 110 ts.length (by omega)
 unfold nk at nl
 have sr:1+(K5 ts.length).length≤Gr:=by have:=Ye 0 ts.length (by omega);unfold nk at this;rw[List.length_cons] at this;unfold Gr;omega
 have rm: (ts.length+1)*16≤Cv:=by unfold Cv;omega
 by_cases c: (ts.length:Int)<16+k
 ·simp(maxSteps:=1000000) [Cm,Cc,C8,Cx,Ci,C9,Cj,Ck,Bw,Da,Ch,D7,-List.getD_eq_getElem?_getD,-List.map_map,Bgc,g0,g3,p2,w,eq_true c,p1,sr,rm]
  exact⟨n - 1,by omega,ts++[110::K5 ts.length],g+1,q+1,by simp;omega,hsh.snoc (by omega),by simp,rfl,by rw[List.length_append];rfl,by omega,by omega⟩
 ·simp(maxSteps:=1000000) [Cm,Cc,C8,Cx,Ci,C9,Cj,Ck,Bw,Da,Ch,D7,-List.getD_eq_getElem?_getD,-List.map_map,Bgc,g0,g3,p2,w,eq_false c]
  exact⟨rfl,ts,g,q+1,by omega,hsh,rfl,rfl,by omega,by omega⟩
theorem By9 (H:Hp) (r:Nat) (bs:List Int) (p:Int) (h:Ce H r=some (rd bs p)) (hb:Cy bs) (hp:0≤p) (hp2:p≤10000000):
  ∃ (ts:List Bp) (q:Int),ev R 76 [.ptr r 0 0 0] H=some (.d (Bf ts),Bv H r (rd bs q))∧p≤q∧q≤p+40∧ts.length≤17∧Sh ts:=by
 have hr:=Dy h
 have hH:=Sv H r bs h
 obtain⟨ts,q,e1,q1,q2,hl,hsh⟩:=By6 H r bs p 6 h hb hp (by omega) (by omega) []
 simp only[List.length_nil,Nat.add_zero,List.nil_append] at e1
 have p16:=fun l=>Gq (H:=H) (l:=l) (r:=r) (bs:=bs) (q:=q) 16 hr hb (by omega) (by omega)
 have pm:Be (ev R) 100 [.d (.str [121]), .d (.int .i64 41)]=some (.d (.str (Sg [121] 41 []))):=Bb fun H=>Bxx H [121] 41 (by omega) (by simp)
 have rm: (ts.length+1)*16≤Cv:=by unfold Cv;omega
 by_cases c0:Cr bs q 16=0
 ·refine⟨ts++[Sg [121] 41 []],q+1, ?_,by omega,by omega,by simp;omega,hsh.snoc (by rw[Bgv];simp)⟩
  conv=>lhs;rw[hH]
  refine Bh (fn:=f76) rfl rfl ?_
  simp(maxSteps:=1000000) [Cm,Cc,C8,Cx,Ci,C9,Cj,Ck,Bw,Da,Ch,D7,-List.getD_eq_getElem?_getD,-List.map_map,f76,e1,p16,c0,pm,rm,Bf]
 by_cases c1:Cr bs q 16=1
 ·obtain⟨o,e',X',he,rfl,us,g,q',ul,ush,rfl,g3,r1,r2⟩:=(B5r H r bs (q+1) hr hb (by omega) (by omega) (17 - ts.length) [(0, .ptr r 0 0 0),(3, .slc (Bc H) 0 0 ts.length),(14, .d (.bool true))] (rh H r bs (q+1) [.row 0 1 ((ts.map D.str).map V.d)]) ⟨ts,0,q+1,by omega,hsh,rfl,rfl,rfl,by omega,by omega⟩).out
  refine⟨us,q', ?_,by omega,by omega,ul,ush⟩
  conv=>lhs;rw[hH]
  refine Bh (fn:=f76) rfl rfl ?_
  simp(maxSteps:=1000000) [Cm,Cc,C8,Cx,Ci,C9,Cj,Ck,Bw,Da,Ch,D7,-List.getD_eq_getElem?_getD,-List.map_map,f76,e1,p16,c1,he,g3,Bf]
 ·refine⟨ts,q+1, ?_,by omega,by omega,by omega,hsh⟩
  conv=>lhs;rw[hH]
  refine Bh (fn:=f76) rfl rfl ?_
  simp(maxSteps:=1000000) [Cm,Cc,C8,Cx,Ci,C9,Cj,Ck,Bw,Da,Ch,D7,-List.getD_eq_getElem?_getD,-List.map_map,f76,e1,p16,eq_false c0,eq_false c1,Bf]
theorem B0s (H:Hp) (r:Nat) (bs:List Int) (p:Int) (h:Ce H r=some (rd bs p)) (hb:Cy bs) (hp:0≤p) (hp2:p≤10000000):
  ∃ (ts:List Bp) (q:Int),ev R 102 [.ptr r 0 0 0] H=some (.d (Bf ts),Bv H r (rd bs q))∧p≤q∧q≤p+40∧ts.length≤17∧Sh ts:=by
 have hr:=Dy h
 obtain⟨xs,q,e1,q1,q2,hl,hsh⟩:=By9 H r bs p h hb hp hp2
 have lk:=Dh (F:=Bq (ev R) R.glob (Bc H) Bg Bat) (lv:=[3,4,5]) xs.length
  (fun i e X=>X=Bv H r (rd bs q)∧(∃us:List Bp,e.get 3= .d (Bf us)∧us.length≤i∧Sh us)∧e.get 4= .d (Bf xs)∧e.get 5= .d (.int .i64 i))
  (fun o e X=>o= .exit 0∧X=Bv H r (rd bs q)∧∃us:List Bp,e.get 3= .d (Bf us)∧us.length≤17∧Sh us)
  (by
   rintro e X ⟨rfl,⟨us,g3,ul,ush⟩,g4,g5⟩
   simp[Cn,-List.getD_eq_getElem?_getD,-List.map_map,Bat,g3,g4,g5]
   exact⟨us,rfl,by omega,ush⟩)
  (by
   rintro i e X hi ⟨rfl,⟨us,g3,ul,ush⟩,g4,g5⟩
   have c: (i:Int)< (xs.length:Int):=by omega
   have g:=Dv xs i hi
   have w1:IntKind.i64.wrap ((i:Int)+1)=(i:Int)+1:=IntWalk.i64_in _ (by omega)
   have pp:=Brp us (xs.getD i []) (by omega)
   have pl:=Bhm us (xs.getD i [])
   have psh:Sh (Yi us (xs.getD i [])):=by
    unfold Yi
    split
    ·exact ush
    ·intro x hx
     rcases Q8.1 hx with rfl|hx
     ·exact hsh _ (Gp hi)
     ·exact ush x hx
   by_cases k: ((xs.getD i []).length:Int)≤40
   ·generalize Yi us (xs.getD i [])=vs at*
    generalize xs.getD i []=x at*
    simp[Cn,-List.getD_eq_getElem?_getD,-List.map_map,Bat,g3,g4,g5,c,hi,g,w1,pp,k]
    exact⟨vs,rfl,by omega,psh⟩
   ·generalize xs.getD i []=x at*
    simp[Cn,-List.getD_eq_getElem?_getD,-List.map_map,Bat,g3,g4,g5,c,hi,g,w1,k]
    exact⟨us,rfl,by omega,ush⟩)
  xs.length 0 [(3, .d (.vals 1 [])),(4, .d (Bf xs)),(5, .d (.int .i64 0))] (Bv H r (rd bs q)) (by omega) ⟨rfl,⟨[],rfl,by simp,fun x hx=>by simp at hx⟩,rfl,rfl⟩
 obtain⟨o,e',X',he,rfl,rfl,us,g3,ul,ush⟩:=lk.out
 refine⟨us,q, ?_,q1,q2,ul,ush⟩
 have ht:=Gu (Bv H r (rd bs q))
 rw[Br] at ht
 refine Bh (fn:=f102) rfl rfl ?_
 simp[Cn,-List.getD_eq_getElem?_getD,-List.map_map,f102,e1,he,g3,ht]
theorem B5j (H:Hp) (r:Nat) (bs:List Int) (p:Int) (h:Ce H r=some (rd bs p)) (hb:Cy bs) (hp:0≤p) (hp2:p≤1000000):
  ∃ (ts:List Bp) (q:Int),ev R 77 [.ptr r 0 0 0] H=some (.d (Bf ts),Bv H r (rd bs q))∧p≤q∧q≤p+50∧ts.length≤17∧Sh ts:=by
 have hr:=Dy h
 have e0:=Bnu H r bs p 10 h hb hp (by omega)
 have hg:=Cw (rd bs (p+1)) hr
 obtain⟨xs,q,e1,q1,q2,hl,s1⟩:=By9 (Bv H r (rd bs (p+1))) r bs (p+1) hg hb (by omega) (by omega)
 obtain⟨ys,q',e2,q1',q2',hl',s2⟩:=B0s (Bv H r (rd bs (p+1))) r bs (p+1) hg hb (by omega) (by omega)
 rw[Lg] at e1 e2
 by_cases c:Cr bs p 10=0
 ·refine⟨xs,q, ?_,by omega,by omega,hl,s1⟩
  have ht:=Gu (Bv H r (rd bs q))
  rw[Br] at ht
  refine Bh (fn:=f77) rfl rfl ?_
  simp[Cn,-List.getD_eq_getElem?_getD,-List.map_map,f77,e0,c,e1,ht]
 ·refine⟨ys,q', ?_,by omega,by omega,hl',s2⟩
  have ht:=Gu (Bv H r (rd bs q'))
  rw[Br] at ht
  refine Bh (fn:=f77) rfl rfl ?_
  simp[Cn,-List.getD_eq_getElem?_getD,-List.map_map,f77,e0,c,e2,ht]
theorem Qr (l:List Ev.Obj) (o:Ev.Obj):Ce (l++[o]) l.length=some o:=by rw[Q6];simp
theorem Sz (l:List Ev.Obj) (o o':Ev.Obj):Bv (l++[o]) l.length o'=l++[o']:=by rw[Tk];simp
def ScI (n:Nat) (xs:List Sc):Prop:=ScO xs∧∀x∈xs,U3 110 n x.1
theorem Bwg {n:Nat} {xs:List Sc} (h:ScI n xs) (x:Sc) (hx:ScB x) (hu:U3 110 n x.1):ScI n (Jy xs x).1:=by
 unfold Jy
 rw[(Pt xs).2 h.1]
 simp only[if_true]
 cases hs:Dg (Xi xs x) with
 |false=>exact h
 |true=>
  refine⟨(Pt _).1 hs,fun y hy=> ?_⟩
  simp only[if_true] at hy
  unfold Xi at hy
  rcases Q8.1 hy with rfl|hy
  ·exact hu
  ·exact h.2 y (List.mem_filter.1 hy).1
theorem Bsn {n:Nat} {xs:List Sc} (h:ScI n xs) (hn:n<100) (hl:xs.length<16) {z:Int} (hz: -1000000000≤z∧z≤1000000000):ScI (n+1) (Jy xs (nk 110 n,z)).1∧(Jy xs (nk 110 n,z)).1.length=xs.length+1:=by
 have hx:ScB (nk 110 n,z):=⟨by have:=Ye 110 n hn;dsimp only;omega,hz⟩
 have hw:F7 xs (nk 110 n)=xs:=by
  unfold F7
  rw[List.filter_eq_self]
  intro y hy
  have:=Beb (h.2 y hy) hn
  simp[this]
 have hs:=Bv9 h.1 hx (by rw[hw];exact hl)
 unfold Jy
 rw[(Pt xs).2 h.1,(Pt _).2 hs]
 simp only[if_true]
 refine⟨⟨hs,fun y hy=> ?_⟩,by unfold Xi;rw[Fy,hw]⟩
 unfold Xi at hy
 rcases Q8.1 hy with rfl|hy
 ·exact .inr ⟨n,by omega,rfl⟩
 ·exact Zh (h.2 y (List.mem_filter.1 hy).1)
def ScL (H:Hp) (r:Nat) (bs:List Int) (q0:Int) (k:Nat) (e:Env) (X:Hp):Prop:=
 ∃ (xs:List Sc) (q:Int) (l:List Ev.Obj),ScI 0 xs∧X=rh H r bs q (l++[.row 0 2 ((xs.map Jq).map V.d)])∧e.get 0= .ptr r 0 0 0∧e.get 3= .slc (Bc H+l.length) 0 0 xs.length∧e.get 4= .d (.int .i64 k)∧q0≤q∧q+2*k≤q0+14∧k≤7
def ScE (H:Hp) (r:Nat) (bs:List Int) (q0:Int) (o:Out) (e:Env) (X:Hp):Prop:=
 o= .exit 0∧∃ (xs:List Sc) (q:Int) (l:List Ev.Obj),ScI 0 xs∧X=rh H r bs q (l++[.row 0 2 ((xs.map Jq).map V.d)])∧e.get 0= .ptr r 0 0 0∧e.get 3= .slc (Bc H+l.length) 0 0 xs.length∧q0≤q∧q≤q0+14
theorem B1f (H:Hp) (r:Nat) (bs:List Int) (q0:Int) (hr:r<Bc H) (hb:Cy bs) (h0:0≤q0) (h1:q0≤100000000) (n:Nat) (e:Env) (X:Hp) (hM:ScL H r bs q0 n e X):
  Gives (ScE H r bs q0) (Bg (Bq (ev R) R.glob (Bc H) Bg Bav) [0,3,4] ⟨e,X⟩):=by
 refine Le (F:=Bq (ev R) R.glob (Bc H) Bg Bav) (lv:=[0,3,4]) (ScL H r bs q0) (ScE H r bs q0) ?_ n e X hM
 show ∀n e X,ScL H r bs q0 n e X→Gives (Ru (Nxt (ScL H r bs q0) n) (ScE H r bs q0)) _
 clear hM
 rintro n e X ⟨xs,q,l,hI,rfl,g0,g3,g4,q1,q2,hk⟩
 cases n with
 |zero=>
  simp(maxSteps:=1000000) [Cm,Cc,C8,Cx,Ci,C9,Cj,Ck,Bw,Da,Ch,D7,-List.getD_eq_getElem?_getD,-List.map_map,Bav,g0,g3,g4]
  exact⟨rfl,xs,q,l,hI,rfl,rfl,rfl,q1,by omega⟩
 |succ n=>
  have t1:=fun l=>Tx (H:=H) (l:=l) (r:=r) (bs:=bs) (q:=q) hr hb (by omega) (by omega)
  have o1:=fun l=>Yl (H:=H) (l:=l) (r:=r) (bs:=bs) (q:=q+1) [0,1,1,2,-5,7,1000000000] hr hb (by omega) (by omega) (by simp) (by simp)
  have om:=Qk bs (q+1) [0,1,1,2,-5,7,1000000000] hb (by omega) (by omega) (by simp)
  have tl:=Nn bs q
  have tn:=(Bh6 bs q).1
  generalize Bbq bs (q+1) [0,1,1,2,-5,7,1000000000]=z at*
  generalize Lh bs q=t at*
  simp only[Bgo,List.map_cons,List.map_nil] at o1
  have hl:=hI.1.len
  have hI':=Bwg hI (t,z) ⟨tl,by simp only[List.mem_cons,List.not_mem_nil,or_false] at om;dsimp only;omega⟩ (.inl tn)
  have pp:=fun X=>Bl6 X xs (t,z) (by omega)
  generalize(Jy xs (t,z)).2.1=d1 at*
  generalize(Jy xs (t,z)).2.2=d2 at*
  generalize(Jy xs (t,z)).1=ys at*
  have sg:=Qr l (.row 0 2 ((xs.map Jq).map V.d))
  have ss:=Sz l (.row 0 2 ((xs.map Jq).map V.d)) .dead
  have cn: (0:Int)< (n:Int)+1:=by omega
  have w:IntKind.i64.wrap ((n:Int)+1 - 1)=(n:Int):=by rw[IntWalk.i64_in _ (by omega)];omega
  have w':IntKind.i64.wrap (n:Int)=(n:Int):=IntWalk.i64_in _ (by omega)
  simp(maxSteps:=1000000) [Cm,Cc,C8,Cx,Ci,C9,Cj,Ck,Bw,Da,Ch,D7,-List.getD_eq_getElem?_getD,-List.map_map,Bav,g0,g3,g4,t1,o1,pp,cn,w,w',sg,ss,Jp]
  exact⟨n,by omega,ys,q+1+1,l++[.dead],hI',by simp,rfl,by rw[List.length_append];rfl,rfl,by omega,by omega,by omega⟩
def ScM (H:Hp) (r:Nat) (bs:List Int) (q:Int) (j:Nat) (e:Env) (X:Hp):Prop:=
 ∃ (xs:List Sc) (n:Nat) (l:List Ev.Obj),ScI n xs∧X=rh H r bs q (l++[.row 0 2 ((xs.map Jq).map V.d)])∧e.get 3= .slc (Bc H+l.length) 0 0 xs.length∧e.get 5= .d (.int .i64 n)∧n+j=16∧n≤xs.length
def ScF (H:Hp) (r:Nat) (bs:List Int) (q:Int) (o:Out) (e:Env) (X:Hp):Prop:=o= .exit 2∧∃ (xs:List Sc) (l:List Ev.Obj),ScO xs∧X=rh H r bs q (l++[.row 0 2 ((xs.map Jq).map V.d)])∧e.get 3= .slc (Bc H+l.length) 0 0 xs.length
theorem Bzg (H:Hp) (r:Nat) (bs:List Int) (q:Int) (n:Nat) (e:Env) (X:Hp) (hM:ScM H r bs q n e X):
  Gives (ScF H r bs q) (Bg (Bq (ev R) R.glob (Bc H) Bg Bau) [3,5] ⟨e,X⟩):=by
 refine Le (F:=Bq (ev R) R.glob (Bc H) Bg Bau) (lv:=[3,5]) (ScM H r bs q) (ScF H r bs q) ?_ n e X hM
 show ∀n e X,ScM H r bs q n e X→Gives (Ru (Nxt (ScM H r bs q) n) (ScF H r bs q)) _
 clear hM
 rintro j e X ⟨xs,n,l,hI,rfl,g3,g5,hn,hle⟩
 have hl:=hI.1.len
 by_cases c:xs.length<16
 ·have c': (xs.length:Int)<16:=by omega
  have m0:0≤Int.tmod (n:Int) 3:=Int.tmod_nonneg _ (by omega)
  have m1:Int.tmod (n:Int) 3<3:=Int.tmod_lt_of_pos _ (by omega)
  have p1:=Bkm (n:Int) (by omega)
  have sr:1+(K5 n).length≤Gr:=by have:=Ye 0 n (by omega);unfold nk at this;rw[List.length_cons] at this;unfold Gr;omega
  obtain⟨hI',yl⟩:=Bsn hI (by omega) c (z:=Int.tmod (n:Int) 3) (by omega)
  have pp:=fun X=>Bl6 X xs (nk 110 n,Int.tmod (n:Int) 3) (by omega)
  unfold nk at pp hI' yl
  generalize(Jy xs (110::K5 n,Int.tmod (n:Int) 3)).2.1=d1 at*
  generalize(Jy xs (110::K5 n,Int.tmod (n:Int) 3)).2.2=d2 at*
  generalize(Jy xs (110::K5 n,Int.tmod (n:Int) 3)).1=ys at*
  have sg:=Qr l (.row 0 2 ((xs.map Jq).map V.d))
  have ss:=Sz l (.row 0 2 ((xs.map Jq).map V.d)) .dead
  have w:IntKind.i64.wrap ((n:Int)+1)=(n:Int)+1:=IntWalk.i64_in _ (by omega)
  simp(maxSteps:=1000000) [Cm,Cc,C8,Cx,Ci,C9,Cj,Ck,Bw,Da,Ch,D7,-List.getD_eq_getElem?_getD,-List.map_map,Bau,g3,g5,c',c,p1,sr,pp,w,sg,ss,Jp]
  exact⟨j - 1,by omega,ys,n+1,l++[.dead],hI',by simp,by rw[List.length_append];rfl,rfl,by omega,by omega⟩
 ·have c': ¬ (xs.length:Int)<16:=by omega
  simp(maxSteps:=1000000) [Cm,Cc,C8,Cx,Ci,C9,Cj,Ck,Bw,Da,Ch,D7,-List.getD_eq_getElem?_getD,-List.map_map,Bau,g3,g5,c',c]
  exact⟨rfl,xs,l,hI.1,rfl,rfl⟩
theorem Bg1 {H X:Hp} {r:Nat} {bs:List Int} {q:Int} (l:List Ev.Obj) (e:Nat) (ds:List D):Brm (Bc H) (rh H r bs q (l++[.row 0 e (ds.map V.d)])) (Bv H r (rd bs q)) [.slc (Bc H+l.length) 0 0 ds.length]=some ([.slc (Bc H) 0 0 ds.length],rh H r bs q (l++[.dead]),ap (Bv H r (rd bs q)) [.row 0 e (ds.map V.d)]):=by
 have hrow:Di (rh H r bs q (l++[.row 0 e (ds.map V.d)])) (Bc H+l.length) 0=some (e,ds.map V.d):=by
  unfold Di
  rw[Cx,Qr]
  rfl
 have hs:Bv (rh H r bs q (l++[.row 0 e (ds.map V.d)])) (Bc H+l.length) .dead=rh H r bs q (l++[.dead]):=by rw[C9,Sz]
 have hn: ¬Bc H+l.length<Bc H:=by omega
 simp only[Brm,Xa,W9,Sd,Ud,if_neg hn,hrow,hs,Qu,Br]
 rfl
theorem B0t (H:Hp) (r:Nat) (bs:List Int) (p:Int) (h:Ce H r=some (rd bs p)) (hb:Cy bs) (hp:0≤p) (hp2:p≤10000000):
  ∃ (xs:List Sc) (q:Int),ev R 103 [.ptr r 0 0 0] H=some (.slc (Bc H) 0 0 xs.length,ap (Bv H r (rd bs q)) [.row 0 2 ((xs.map Jq).map V.d)])∧p≤q∧q≤p+20∧ScO xs:=by
 have hr:=Dy h
 have hH:=Sv H r bs h
 have p7:=fun l=>Gq (H:=H) (l:=l) (r:=r) (bs:=bs) (q:=p) 7 hr hb hp (by omega)
 obtain⟨k0,k1⟩:=Gd bs p 7 hb hp (by omega)
 have k1:=k1 (by omega)
 generalize Cr bs p 7=k at*
 obtain⟨k,rfl⟩:=Int.eq_ofNat_of_zero_le k0
 obtain⟨o,e',X',he,rfl,xs,q,l,hI,rfl,g0,g3,q1,q2⟩:=(B1f H r bs (p+1) hr hb (by omega) (by omega) k [(0, .ptr r 0 0 0),(3, .slc (Bc H) 0 0 0),(4, .d (.int .i64 k))] (rh H r bs (p+1) [.row 0 2 []])
  ⟨[],p+1,[],⟨⟨by simp,by simp,by simp,by simp⟩,by simp⟩,rfl,rfl,rfl,rfl,by omega,by omega,by omega⟩).out
 have p30:=fun l=>Gq (H:=H) (l:=l) (r:=r) (bs:=bs) (q:=q) 30 hr hb (by omega) (by omega)
 have ow:=fun (q:Int) (l:List Ev.Obj) (ys:List Sc)=>Bg1 (H:=H) (X:=H) (r:=r) (bs:=bs) (q:=q) l 2 (ys.map Jq)
 simp only[List.length_map] at ow
 by_cases f:Cr bs q 30=0
 ·obtain⟨o2,e2,X2,he2,rfl,ys,l2,hO,rfl,m3⟩:=(Bzg H r bs (q+1) 16 [(3, .slc (Bc H+l.length) 0 0 xs.length),(5, .d (.int .i64 0))] (rh H r bs (q+1) (l++[.row 0 2 ((xs.map Jq).map V.d)])) ⟨xs,0,l,hI,rfl,rfl,rfl,rfl,by omega⟩).out
  refine⟨ys,q+1, ?_,by omega,by omega,hO⟩
  conv=>lhs;rw[hH]
  refine Bh (fn:=f103) rfl rfl ?_
  simp(maxSteps:=1000000) [Cm,Cc,C8,Cx,Ci,C9,Cj,Ck,Bw,Da,Ch,D7,-List.getD_eq_getElem?_getD,-List.map_map,f103,p7,he,g0,g3,p30,f,he2,m3, ↓ow]
 ·refine⟨xs,q+1, ?_,by omega,by omega,hI.1⟩
  conv=>lhs;rw[hH]
  refine Bh (fn:=f103) rfl rfl ?_
  simp(maxSteps:=1000000) [Cm,Cc,C8,Cx,Ci,C9,Cj,Ck,Bw,Da,Ch,D7,-List.getD_eq_getElem?_getD,-List.map_map,f103,p7,he,g0,g3,p30,f, ↓ow]
end Go.Proofs.YtjdmiodinhlchaaGreat.Code

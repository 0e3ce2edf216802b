/- Lemmas (several texts in one). -/
import Derived.Test.YtjdmiodinhlchaaGreatMBasePut7
import Derived.Test.YtjdmiodinhlchaaGreatMBasePut24
set_option maxRecDepth 100000
set_option maxHeartbeats 4000000
set_option linter.unusedSimpArgs false
set_option linter.unusedVariables false
namespace Go.Proofs.YtjdmiodinhlchaaGreat.Code
open Go Go.Ev Go.Proofs
theorem B5k (H:Hp) (r:Nat) (bs:List Int) (p:Int) (h:Ce H r=some (rd bs p)) (hb:Cy bs) (hp:0≤p) (hp2:p≤1000000):
  ∃ (xs:List Sc) (q:Int),ev R 78 [.ptr r 0 0 0] H=some (.d (Dr xs),Bv H r (rd bs q))∧p≤q∧q≤p+30∧ScQ xs:=by
 have hr:=Dy h
 have hH:=Sv H r bs h
 obtain⟨xs,q,e1,q1,q2,hO⟩:=B0t H r bs p h hb hp (by omega)
 have e1:ev R 103 [.ptr r 0 0 0] (rh H r bs p [])=some (.slc (Bc H) 0 0 xs.length,rh H r bs q [.row 0 2 ((xs.map Jq).map V.d)]):=by rw[←hH];exact e1
 have hl:=hO.len
 have hin: ∀x∈xs,x.1.length≤1000000∧ -2000000000≤x.2∧x.2≤2000000000:=fun x hx=>by
  obtain⟨a,b,c⟩:=hO.each x hx
  exact⟨by omega,by omega,by omega⟩
 have p10:=fun l=>Gq (H:=H) (l:=l) (r:=r) (bs:=bs) (q:=q) 10 hr hb (by omega) (by omega)
 by_cases c:Cr bs q 10=0
 ·have t1:=fun l=>Tx (H:=H) (l:=l) (r:=r) (bs:=bs) (q:=q+1) hr hb (by omega) (by omega)
  have o1:=fun l=>Yl (H:=H) (l:=l) (r:=r) (bs:=bs) (q:=q+1+1) [0,1000000001] hr hb (by omega) (by omega) (by simp) (by simp)
  have om:=Qk bs (q+1+1) [0,1000000001] hb (by omega) (by omega) (by simp)
  generalize Bbq bs (q+1+1) [0,1000000001]=z at*
  simp only[Bgo,List.map_cons,List.map_nil] at o1
  have rm: (xs.length+1)*24≤Cv:=by unfold Cv;omega
  refine⟨xs++[(Lh bs (q+1),z)],q+1+1+1, ?_,by omega,by omega,by simp;omega,fun x hx=> ?_⟩
  ·conv=>lhs;rw[hH]
   refine Bh (fn:=f78) rfl rfl ?_
   simp(maxSteps:=1000000) [Cm,Cc,C8,Cx,Ci,C9,Cj,Ck,Bw,Da,Ch,D7,-List.getD_eq_getElem?_getD,-List.map_map,f78,e1,p10,c,t1,o1,rm,Dr]
  ·rcases List.mem_append.1 hx with hx|hx
   ·exact hin x hx
   ·rw[List.mem_singleton.1 hx]
    simp only[List.mem_cons,List.not_mem_nil,or_false] at om
    have:=Nn bs (q+1)
    exact⟨by dsimp only;omega,by dsimp only;omega,by dsimp only;omega⟩
 ·refine⟨xs,q+1, ?_,by omega,by omega,by omega,hin⟩
  conv=>lhs;rw[hH]
  refine Bh (fn:=f78) rfl rfl ?_
  simp(maxSteps:=1000000) [Cm,Cc,C8,Cx,Ci,C9,Cj,Ck,Bw,Da,Ch,D7,-List.getD_eq_getElem?_getD,-List.map_map,f78,e1,p10,c,Dr]
def FrI (n:Nat) (xs:List Pr):Prop:=PrO xs∧∀x∈xs,U3 102 n x.1
theorem Bvr {n:Nat} {xs:List Pr} (h:FrI n xs) (x:Pr) (hu:U3 102 n x.1):FrI n (Jw xs x).1:=by
 unfold Jw
 rw[(Pk xs).2 h.1]
 simp only[if_true]
 cases hs:Dw (Rt xs x) with
 |false=>exact h
 |true=>
  refine⟨(Pk _).1 hs,fun y hy=> ?_⟩
  simp only[if_true] at hy
  unfold Rt at hy
  split at hy
  ·rcases List.mem_or_eq_of_mem_set hy with hy|rfl
   ·exact h.2 y hy
   ·exact hu
  ·rcases Q8.1 hy with rfl|hy
   ·exact hu
   ·exact h.2 y hy
theorem Bq4 {n:Nat} {xs:List Pr} (h:FrI n xs) (hn:n<100) (hl:xs.length<16):FrI (n+1) (Jw xs (nk 102 n,[])).1∧(Jw xs (nk 102 n,[])).1.length=xs.length+1:=by
 have hx:PrB (nk 102 n,[]):=⟨by have:=Ye 102 n hn;dsimp only;omega,by simp⟩
 have hf:Ma xs (nk 102 n)=false:=by
  cases hc:Ma xs (nk 102 n) with
  |false=>rfl
  |true=>
   obtain⟨y,hy,he⟩:=(Bge h.1.asc _).1 hc
   exact absurd he (Beb (h.2 y hy) hn)
 have hs:=Bv8 h.1 hx (.inr hl)
 have hr:Rt xs (nk 102 n,[])=D6 xs (Rv xs (nk 102 n)) (nk 102 n,[]):=by unfold Rt;rw[if_neg (by rw[hf];simp)]
 unfold Jw
 rw[(Pk xs).2 h.1,(Pk _).2 hs]
 simp only[if_true]
 refine⟨⟨hs,fun y hy=> ?_⟩,by rw[hr,Fy]⟩
 rw[hr] at hy
 rcases Q8.1 hy with rfl|hy
 ·exact .inr ⟨n,by omega,rfl⟩
 ·exact Zh (h.2 y hy)
def FrL (H:Hp) (r:Nat) (bs:List Int) (q0:Int) (k:Nat) (e:Env) (X:Hp):Prop:=
 ∃ (xs:List Pr) (q:Int) (l:List Ev.Obj),FrI 10 xs∧X=rh H r bs q (l++[.row 0 2 ((xs.map Ka).map V.d)])∧e.get 0= .ptr r 0 0 0∧e.get 3= .slc (Bc H+l.length) 0 0 xs.length∧e.get 4= .d (.int .i64 k)∧q0≤q∧q+2*k≤q0+10∧k≤5
def FrE (H:Hp) (r:Nat) (bs:List Int) (q0:Int) (o:Out) (e:Env) (X:Hp):Prop:=
 o= .exit 0∧∃ (xs:List Pr) (q:Int) (l:List Ev.Obj),FrI 10 xs∧X=rh H r bs q (l++[.row 0 2 ((xs.map Ka).map V.d)])∧e.get 3= .slc (Bc H+l.length) 0 0 xs.length∧q0≤q∧q≤q0+10
theorem B1g (H:Hp) (r:Nat) (bs:List Int) (q0:Int) (hr:r<Bc H) (hb:Cy bs) (h0:0≤q0) (h1:q0≤100000000) (n:Nat) (e:Env) (X:Hp) (hM:FrL H r bs q0 n e X):
  Gives (FrE H r bs q0) (Bg (Bq (ev R) R.glob (Bc H) Bg Baw) [0,3,4] ⟨e,X⟩):=by
 refine Le (F:=Bq (ev R) R.glob (Bc H) Bg Baw) (lv:=[0,3,4]) (FrL H r bs q0) (FrE H r bs q0) ?_ n e X hM
 show ∀n e X,FrL H r bs q0 n e X→Gives (Ru (Nxt (FrL H r bs q0) n) (FrE H r bs q0)) _
 clear hM
 rintro n e X ⟨xs,q,l,hI,rfl,g0,g3,g4,q1,q2,hk⟩
 cases n with
 |zero=>
  simp(maxSteps:=1000000) [Cm,Cc,C8,Cx,Ci,C9,Cj,Ck,Bw,Da,Ch,D7,-List.getD_eq_getElem?_getD,-List.map_map,Baw,g0,g3,g4]
  exact⟨rfl,xs,q,l,hI,rfl,rfl,q1,by omega⟩
 |succ n=>
  have t1:=fun l=>Tx (H:=H) (l:=l) (r:=r) (bs:=bs) (q:=q) hr hb (by omega) (by omega)
  have t2:=fun l=>Tx (H:=H) (l:=l) (r:=r) (bs:=bs) (q:=q+1) hr hb (by omega) (by omega)
  have tn:=(Bh6 bs q).2
  generalize Lh bs q=t at*
  generalize Lh bs (q+1)=u at*
  have hl:=hI.1.len
  have hI':=Bvr hI (t,u) (.inl tn)
  have pp:=fun X=>Bl5 X xs (t,u) (by omega)
  generalize(Jw xs (t,u)).2.1=d1 at*
  generalize(Jw xs (t,u)).2.2=d2 at*
  generalize(Jw xs (t,u)).1=ys at*
  have sg:=Qr l (.row 0 2 ((xs.map Ka).map V.d))
  have ss:=Sz l (.row 0 2 ((xs.map Ka).map V.d)) .dead
  have cn: (0:Int)< (n:Int)+1:=by omega
  have w:IntKind.i64.wrap ((n:Int)+1 - 1)=(n:Int):=by rw[IntWalk.i64_in _ (by omega)];omega
  have w':IntKind.i64.wrap (n:Int)=(n:Int):=IntWalk.i64_in _ (by omega)
  simp(maxSteps:=1000000) [Cm,Cc,C8,Cx,Ci,C9,Cj,Ck,Bw,Da,Ch,D7,-List.getD_eq_getElem?_getD,-List.map_map,Baw,g0,g3,g4,t1,t2,pp,cn,w,w',sg,ss,Jp]
  exact⟨n,by omega,ys,q+1+1,l++[.dead],hI',by simp,rfl,by rw[List.length_append];rfl,rfl,by omega,by omega,by omega⟩
theorem B0u (H:Hp) (r:Nat) (bs:List Int) (p:Int) (h:Ce H r=some (rd bs p)) (hb:Cy bs) (hp:0≤p) (hp2:p≤10000000):
  ∃ (xs:List Pr) (q:Int),ev R 104 [.ptr r 0 0 0] H=some (.slc (Bc H) 0 0 xs.length,ap (Bv H r (rd bs q)) [.row 0 2 ((xs.map Ka).map V.d)])∧p≤q∧q≤p+20∧FrI 10 xs:=by
 have hr:=Dy h
 have hH:=Sv H r bs h
 have p7:=fun l=>Gq (H:=H) (l:=l) (r:=r) (bs:=bs) (q:=p) 5 hr hb hp (by omega)
 obtain⟨k0,k1⟩:=Gd bs p 5 hb hp (by omega)
 have k1:=k1 (by omega)
 generalize Cr bs p 5=k at*
 obtain⟨k,rfl⟩:=Int.eq_ofNat_of_zero_le k0
 obtain⟨o,e',X',he,rfl,xs,q,l,hI,rfl,g3,q1,q2⟩:=(B1g H r bs (p+1) hr hb (by omega) (by omega) k [(0, .ptr r 0 0 0),(3, .slc (Bc H) 0 0 0),(4, .d (.int .i64 k))] (rh H r bs (p+1) [.row 0 2 []])
  ⟨[],p+1,[],⟨⟨by simp,by simp,by simp⟩,by simp⟩,rfl,rfl,rfl,rfl,by omega,by omega,by omega⟩).out
 have ow:=fun (q:Int) (l:List Ev.Obj) (ys:List Pr)=>Bg1 (H:=H) (X:=H) (r:=r) (bs:=bs) (q:=q) l 2 (ys.map Ka)
 simp only[List.length_map] at ow
 refine⟨xs,q, ?_,by omega,by omega,hI⟩
 conv=>lhs;rw[hH]
 refine Bh (fn:=f104) rfl rfl ?_
 simp(maxSteps:=1000000) [Cm,Cc,C8,Cx,Ci,C9,Cj,Ck,Bw,Da,Ch,D7,-List.getD_eq_getElem?_getD,-List.map_map,f104,p7,he,g3, ↓ow]
def FrM (H:Hp) (r:Nat) (bs:List Int) (q:Int) (j:Nat) (e:Env) (X:Hp):Prop:=
 ∃ (xs:List Pr) (n:Nat) (l:List Ev.Obj),FrI n xs∧X=rh H r bs q (l++[.row 0 2 ((xs.map Ka).map V.d)])∧e.get 3= .slc (Bc H+l.length) 0 0 xs.length∧e.get 4= .d (.int .i64 n)∧n+j=26∧n≤xs.length+10
def FrF (H:Hp) (r:Nat) (bs:List Int) (q:Int) (o:Out) (e:Env) (X:Hp):Prop:=o= .exit 1∧∃ (xs:List Pr) (l:List Ev.Obj),PrO xs∧X=rh H r bs q (l++[.row 0 2 ((xs.map Ka).map V.d)])∧e.get 3= .slc (Bc H+l.length) 0 0 xs.length
theorem B5s (H:Hp) (r:Nat) (bs:List Int) (q:Int) (n:Nat) (e:Env) (X:Hp) (hM:FrM H r bs q n e X):
  Gives (FrF H r bs q) (Bg (Bq (ev R) R.glob (Bc H) Bg Bgd) [3,4] ⟨e,X⟩):=by
 refine Le (F:=Bq (ev R) R.glob (Bc H) Bg Bgd) (lv:=[3,4]) (FrM H r bs q) (FrF H r bs q) ?_ n e X hM
 show ∀n e X,FrM H r bs q n e X→Gives (Ru (Nxt (FrM H r bs q) n) (FrF H r bs q)) _
 clear hM
 rintro j e X ⟨xs,n,l,hI,rfl,g3,g4,hn,hle⟩
 have hl:=hI.1.len
 by_cases c:xs.length<16
 ·have c': (xs.length:Int)<16:=by omega
  have p1:=Bkm (n:Int) (by omega)
  have sr:1+(K5 n).length≤Gr:=by have:=Ye 0 n (by omega);unfold nk at this;rw[List.length_cons] at this;unfold Gr;omega
  obtain⟨hI',yl⟩:=Bq4 hI (by omega) c
  have pp:=fun X=>Bl5 X xs (nk 102 n,[]) (by omega)
  unfold nk at pp hI' yl
  generalize(Jw xs (102::K5 n,[])).2.1=d1 at*
  generalize(Jw xs (102::K5 n,[])).2.2=d2 at*
  generalize(Jw xs (102::K5 n,[])).1=ys at*
  have sg:=Qr l (.row 0 2 ((xs.map Ka).map V.d))
  have ss:=Sz l (.row 0 2 ((xs.map Ka).map V.d)) .dead
  have w:IntKind.i64.wrap ((n:Int)+1)=(n:Int)+1:=IntWalk.i64_in _ (by omega)
  simp(maxSteps:=1000000) [Cm,Cc,C8,Cx,Ci,C9,Cj,Ck,Bw,Da,Ch,D7,-List.getD_eq_getElem?_getD,-List.map_map,Bgd,g3,g4,c',c,p1,sr,pp,w,sg,ss,Jp]
  exact⟨j - 1,by omega,ys,n+1,l++[.dead],hI',by simp,by rw[List.length_append];rfl,rfl,by omega,by omega⟩
 ·have c': ¬ (xs.length:Int)<16:=by omega
  simp(maxSteps:=1000000) [Cm,Cc,C8,Cx,Ci,C9,Cj,Ck,Bw,Da,Ch,D7,-List.getD_eq_getElem?_getD,-List.map_map,Bgd,g3,g4,c',c]
  exact⟨rfl,xs,l,hI.1,rfl,rfl⟩
theorem PrO.q {xs:List Pr} (h:PrO xs):PrQ xs:=⟨by have:=h.len;omega,fun x hx=>by
 obtain⟨a,b⟩:=h.each x hx
 exact⟨by omega,by omega⟩⟩
theorem Bwd {H:Hp} {r:Nat} {bs:List Int} {q:Int} (l:List Ev.Obj) (e:Nat) (ds:List D):Y0 (Bc H) (rh H r bs q (l++[.row 0 e (ds.map V.d)])) (.slc (Bc H+l.length) 0 0 ds.length)=some (.d (.vals e ds)):=by
 have:=Bsc H (l++[.row 0 e (ds.map V.d)]) r bs q 0 l.length 0 e ds.length ds (Nat.zero_le _) (Qr l _) rfl
 exact this
theorem B5l (H:Hp) (r:Nat) (bs:List Int) (p:Int) (h:Ce H r=some (rd bs p)) (hb:Cy bs) (hp:0≤p) (hp2:p≤1000000):
  ∃ (xs:List Pr) (q:Int),ev R 79 [.ptr r 0 0 0] H=some (.d (Fs xs),Bv H r (rd bs q))∧p≤q∧q≤p+30∧PrQ xs:=by
 have hr:=Dy h
 have hH:=Sv H r bs h
 obtain⟨xs,q,e1,q1,q2,hI⟩:=B0u H r bs p h hb hp (by omega)
 have e1:ev R 104 [.ptr r 0 0 0] (rh H r bs p [])=some (.slc (Bc H) 0 0 xs.length,rh H r bs q [.row 0 2 ((xs.map Ka).map V.d)]):=by rw[←hH];exact e1
 have hl:=hI.1.len
 have p12:=fun l=>Gq (H:=H) (l:=l) (r:=r) (bs:=bs) (q:=q) 12 hr hb (by omega) (by omega)
 by_cases c0:Cr bs q 12=0
 ·have t1:=fun l=>Tx (H:=H) (l:=l) (r:=r) (bs:=bs) (q:=q+1) hr hb (by omega) (by omega)
  have rm: (xs.length+1)*32≤Cv:=by unfold Cv;omega
  have tl:=Nn bs (q+1)
  refine⟨xs++[(Lh bs (q+1),[])],q+1+1, ?_,by omega,by omega,by simp;omega,fun x hx=>by
   rcases List.mem_append.1 hx with hx|hx
   ·exact hI.1.q.2 x hx
   ·rw[List.mem_singleton.1 hx];exact⟨by dsimp only;omega,by simp⟩⟩
  conv=>lhs;rw[hH]
  refine Bh (fn:=f79) rfl rfl ?_
  simp(maxSteps:=1000000) [Cm,Cc,C8,Cx,Ci,C9,Cj,Ck,Bw,Da,Ch,D7,-List.getD_eq_getElem?_getD,-List.map_map,f79,e1,p12,c0,t1,rm,Fs]
 by_cases c1:Cr bs q 12=1
 ·obtain⟨o,e',X',he,rfl,ys,l,hO,rfl,g3⟩:=(B5s H r bs (q+1) 16 [(3, .slc (Bc H) 0 0 xs.length),(4, .d (.int .i64 10))] (rh H r bs (q+1) [.row 0 2 ((xs.map Ka).map V.d)]) ⟨xs,10,[],hI,rfl,rfl,rfl,by omega,by omega⟩).out
  have hl2:=hO.len
  have fz:=Bwd (H:=H) (r:=r) (bs:=bs) (q:=q+1) l 2 (ys.map Ka)
  simp only[List.length_map] at fz
  refine⟨ys,q+1, ?_,by omega,by omega,hO.q⟩
  conv=>lhs;rw[hH]
  refine Bh (fn:=f79) rfl rfl ?_
  simp(maxSteps:=1000000) [Cm,Cc,C8,Cx,Ci,C9,Cj,Ck,Bw,Da,Ch,D7,-List.getD_eq_getElem?_getD,-List.map_map,f79,e1,p12,c1,he,g3, ↓fz,Fs]
 ·refine⟨xs,q+1, ?_,by omega,by omega,hI.1.q⟩
  conv=>lhs;rw[hH]
  refine Bh (fn:=f79) rfl rfl ?_
  simp(maxSteps:=1000000) [Cm,Cc,C8,Cx,Ci,C9,Cj,Ck,Bw,Da,Ch,D7,-List.getD_eq_getElem?_getD,-List.map_map,f79,e1,p12,eq_false c0,eq_false c1,Fs]
def e0A:Ev.Obj:= .row 0 7 [.agg [.d (.str []), .d (.int .i64 0), .d (.int .i64 0), .d (.str []), .nils 1, .nils 2, .nils 2]]
def e0B (key:Bp) (till k:Int):Ev.Obj:= .row 0 7 [.agg [.d (.str key), .d (.int .i64 till), .d (.int .i64 k), .d (.str []), .nils 1, .nils 2, .nils 2]]
theorem B5h (H:Hp) (r:Nat) (bs:List Int) (p:Int) (h:Ce H r=some (rd bs p)) (hb:Cy bs) (hp:0≤p) (hp2:p≤100000):
  ∃ (e:En) (q:Int),ev R 51 [.ptr r 0 0 0] H=some (.d (F6 e),Bv H r (rd bs q))∧p≤q∧q≤p+100∧EnQ e:=by
 have hr:=Dy h
 have hH:=Sv H r bs h
 have o1:=fun l=>Bsa (H:=H) (l:=l) (r:=r) (bs:=bs) (q:=p) [[107],[108],[110,101,119],[],[109,117,99,104,116,111,111,108,111,110,103,107,101,121]] hr hb hp (by omega) (by simp)
 have ol:=Wz bs p [[107],[108],[110,101,119],[],[109,117,99,104,116,111,111,108,111,110,103,107,101,121]] 40 (by simp)
 have p5:=fun l=>Gq (H:=H) (l:=l) (r:=r) (bs:=bs) (q:=p+1) 5 hr hb (by omega) (by omega)
 have o2:=fun l=>Yl (H:=H) (l:=l) (r:=r) (bs:=bs) (q:=p+1+1) [0,0,20,2000001,1] hr hb (by omega) (by omega) (by simp) (by simp)
 have om:=Qk bs (p+1+1) [0,0,20,2000001,1] hb (by omega) (by omega) (by simp)
 obtain⟨k0,k1⟩:=Gd bs (p+1) 5 hb (by omega) (by omega)
 have k1:=k1 (by omega)
 generalize Cr bs (p+1) 5=k at*
 generalize Bbq bs (p+1+1) [0,0,20,2000001,1]=till at*
 generalize ofV bs p [[107],[108],[110,101,119],[],[109,117,99,104,116,111,111,108,111,110,103,107,101,121]]=key at*
 simp only[Bgo,Bf,List.map_cons,List.map_nil] at o1 o2
 have tl:0≤till∧till≤10000000:=by
  simp only[List.mem_cons,List.not_mem_nil,or_false] at om
  omega
 obtain⟨q,hq⟩: ∃q,q=p+1+1+1:=⟨_,rfl⟩
 rw[←hq] at o2
 have z16:=fun q' (a:0≤q') (b:q'≤1000000) l=>Gq (H:=H) (l:=l) (r:=r) (bs:=bs) (q:=q') 16 hr hb a (by omega)
 have z7:=fun q' (a:0≤q') (b:q'≤1000000) l=>Gq (H:=H) (l:=l) (r:=r) (bs:=bs) (q:=q') 7 hr hb a (by omega)
 have i7:=fun q' (a:0≤q') (b:q'≤1000000)=>Gd bs q' 7 hb a (by omega)
 have hk:k=0∨k=1∨k=2∨k=3∨k=4:=by omega
 have hg:=fun l=>Y6 H l r bs q hr
 rcases hk with rfl|rfl|rfl|rfl|rfl
 ·have e1:=fun l=>Tx (H:=H) (l:=l) (r:=r) (bs:=bs) (q:=q) hr hb (by omega) (by omega)
  have tl:=Nn bs q
  generalize Lh bs q=t at*
  obtain⟨q',hq'⟩: ∃q',q'=q+1:=⟨_,rfl⟩
  rw[←hq'] at e1
  have w:IntKind.i64.wrap 1=1:=IntWalk.i64_in _ (by omega)
  have y16:=z16 q' (by omega) (by omega)
  have y7:=z7 (q'+1) (by omega) (by omega)
  obtain⟨j0,j1⟩:=i7 (q'+1) (by omega) (by omega)
  have j1:=j1 (by omega)
  by_cases c:Cr bs q' 16=0
  ·refine⟨⟨key,till,Cr bs (q'+1) 7,t,[],[],[]⟩,q'+1+1, ?_,by omega,by omega, ?_⟩
   ·conv=>lhs;rw[hH]
    refine Bh (fn:=f51) rfl rfl ?_
    simp(maxSteps:=1000000) [Cm,Cc,C8,Cx,Ci,C9,Cj,Ck,Bw,Da,Ch,D7,-List.getD_eq_getElem?_getD,-List.map_map,f51,o1,p5,o2,w,e1,y16,c,y7]
    try rfl
   ·exact⟨by dsimp only;omega,by dsimp only;omega,by simp,by simp,by simp,by simp,by simp,by simp,by dsimp only;omega,by dsimp only;omega⟩
  ·refine⟨⟨key,till,1,t,[],[],[]⟩,q'+1, ?_,by omega,by omega, ?_⟩
   ·conv=>lhs;rw[hH]
    refine Bh (fn:=f51) rfl rfl ?_
    simp(maxSteps:=1000000) [Cm,Cc,C8,Cx,Ci,C9,Cj,Ck,Bw,Da,Ch,D7,-List.getD_eq_getElem?_getD,-List.map_map,f51,o1,p5,o2,w,e1,y16,eq_false c]
    try rfl
   ·exact⟨by dsimp only;omega,by dsimp only;omega,by simp,by simp,by simp,by simp,by simp,by simp,by dsimp only;omega,by dsimp only;omega⟩
 ·obtain⟨ts,q',e1,a1,a2,tl,sh⟩:=By9 (rh H r bs q [e0A,e0B key till 2]) r bs q (hg _) hb (by omega) (by omega)
  rw[Ps H _ r bs q hr] at e1
  unfold e0A e0B at e1
  have tq:=sh.q tl
  have w:IntKind.i64.wrap 2=2:=IntWalk.i64_in _ (by omega)
  have y16:=z16 q' (by omega) (by omega)
  have y7:=z7 (q'+1) (by omega) (by omega)
  obtain⟨j0,j1⟩:=i7 (q'+1) (by omega) (by omega)
  have j1:=j1 (by omega)
  by_cases c:Cr bs q' 16=0
  ·refine⟨⟨key,till,Cr bs (q'+1) 7,[],ts,[],[]⟩,q'+1+1, ?_,by omega,by omega, ?_⟩
   ·conv=>lhs;rw[hH]
    refine Bh (fn:=f51) rfl rfl ?_
    simp(maxSteps:=1000000) [Cm,Cc,C8,Cx,Ci,C9,Cj,Ck,Bw,Da,Ch,D7,-List.getD_eq_getElem?_getD,-List.map_map,f51,o1,p5,o2,w,e1,Bf,y16,c,y7]
    try rfl
   ·exact⟨by dsimp only;omega,by simp,tq.1,tq.2,by simp,by simp,by simp,by simp,by dsimp only;omega,by dsimp only;omega⟩
  ·refine⟨⟨key,till,2,[],ts,[],[]⟩,q'+1, ?_,by omega,by omega, ?_⟩
   ·conv=>lhs;rw[hH]
    refine Bh (fn:=f51) rfl rfl ?_
    simp(maxSteps:=1000000) [Cm,Cc,C8,Cx,Ci,C9,Cj,Ck,Bw,Da,Ch,D7,-List.getD_eq_getElem?_getD,-List.map_map,f51,o1,p5,o2,w,e1,Bf,y16,eq_false c]
    try rfl
   ·exact⟨by dsimp only;omega,by simp,tq.1,tq.2,by simp,by simp,by simp,by simp,by dsimp only;omega,by dsimp only;omega⟩
 ·obtain⟨ts,q',e1,a1,a2,tl,sh⟩:=B5j (rh H r bs q [e0A,e0B key till 3]) r bs q (hg _) hb (by omega) (by omega)
  rw[Ps H _ r bs q hr] at e1
  unfold e0A e0B at e1
  have tq:=sh.q tl
  have w:IntKind.i64.wrap 3=3:=IntWalk.i64_in _ (by omega)
  have y16:=z16 q' (by omega) (by omega)
  have y7:=z7 (q'+1) (by omega) (by omega)
  obtain⟨j0,j1⟩:=i7 (q'+1) (by omega) (by omega)
  have j1:=j1 (by omega)
  by_cases c:Cr bs q' 16=0
  ·refine⟨⟨key,till,Cr bs (q'+1) 7,[],ts,[],[]⟩,q'+1+1, ?_,by omega,by omega, ?_⟩
   ·conv=>lhs;rw[hH]
    refine Bh (fn:=f51) rfl rfl ?_
    simp(maxSteps:=1000000) [Cm,Cc,C8,Cx,Ci,C9,Cj,Ck,Bw,Da,Ch,D7,-List.getD_eq_getElem?_getD,-List.map_map,f51,o1,p5,o2,w,e1,Bf,y16,c,y7]
    try rfl
   ·exact⟨by dsimp only;omega,by simp,tq.1,tq.2,by simp,by simp,by simp,by simp,by dsimp only;omega,by dsimp only;omega⟩
  ·refine⟨⟨key,till,3,[],ts,[],[]⟩,q'+1, ?_,by omega,by omega, ?_⟩
   ·conv=>lhs;rw[hH]
    refine Bh (fn:=f51) rfl rfl ?_
    simp(maxSteps:=1000000) [Cm,Cc,C8,Cx,Ci,C9,Cj,Ck,Bw,Da,Ch,D7,-List.getD_eq_getElem?_getD,-List.map_map,f51,o1,p5,o2,w,e1,Bf,y16,eq_false c]
    try rfl
   ·exact⟨by dsimp only;omega,by simp,tq.1,tq.2,by simp,by simp,by simp,by simp,by dsimp only;omega,by dsimp only;omega⟩
 ·obtain⟨xs,q',e1,a1,a2,tq⟩:=B5k (rh H r bs q [e0A,e0B key till 4]) r bs q (hg _) hb (by omega) (by omega)
  rw[Ps H _ r bs q hr] at e1
  unfold e0A e0B at e1
  have w:IntKind.i64.wrap 4=4:=IntWalk.i64_in _ (by omega)
  have y16:=z16 q' (by omega) (by omega)
  have y7:=z7 (q'+1) (by omega) (by omega)
  obtain⟨j0,j1⟩:=i7 (q'+1) (by omega) (by omega)
  have j1:=j1 (by omega)
  by_cases c:Cr bs q' 16=0
  ·refine⟨⟨key,till,Cr bs (q'+1) 7,[],[],xs,[]⟩,q'+1+1, ?_,by omega,by omega, ?_⟩
   ·conv=>lhs;rw[hH]
    refine Bh (fn:=f51) rfl rfl ?_
    simp(maxSteps:=1000000) [Cm,Cc,C8,Cx,Ci,C9,Cj,Ck,Bw,Da,Ch,D7,-List.getD_eq_getElem?_getD,-List.map_map,f51,o1,p5,o2,w,e1,y16,c,y7]
    try rfl
   ·exact⟨by dsimp only;omega,by simp,by simp,by simp,tq.1,tq.2,by simp,by simp,by dsimp only;omega,by dsimp only;omega⟩
  ·refine⟨⟨key,till,4,[],[],xs,[]⟩,q'+1, ?_,by omega,by omega, ?_⟩
   ·conv=>lhs;rw[hH]
    refine Bh (fn:=f51) rfl rfl ?_
    simp(maxSteps:=1000000) [Cm,Cc,C8,Cx,Ci,C9,Cj,Ck,Bw,Da,Ch,D7,-List.getD_eq_getElem?_getD,-List.map_map,f51,o1,p5,o2,w,e1,y16,eq_false c]
    try rfl
   ·exact⟨by dsimp only;omega,by simp,by simp,by simp,tq.1,tq.2,by simp,by simp,by dsimp only;omega,by dsimp only;omega⟩
 ·obtain⟨xs,q',e1,a1,a2,tq⟩:=B5l (rh H r bs q [e0A,e0B key till 5]) r bs q (hg _) hb (by omega) (by omega)
  rw[Ps H _ r bs q hr] at e1
  unfold e0A e0B at e1
  have w:IntKind.i64.wrap 5=5:=IntWalk.i64_in _ (by omega)
  have y16:=z16 q' (by omega) (by omega)
  have y7:=z7 (q'+1) (by omega) (by omega)
  obtain⟨j0,j1⟩:=i7 (q'+1) (by omega) (by omega)
  have j1:=j1 (by omega)
  by_cases c:Cr bs q' 16=0
  ·refine⟨⟨key,till,Cr bs (q'+1) 7,[],[],[],xs⟩,q'+1+1, ?_,by omega,by omega, ?_⟩
   ·conv=>lhs;rw[hH]
    refine Bh (fn:=f51) rfl rfl ?_
    simp(maxSteps:=1000000) [Cm,Cc,C8,Cx,Ci,C9,Cj,Ck,Bw,Da,Ch,D7,-List.getD_eq_getElem?_getD,-List.map_map,f51,o1,p5,o2,w,e1,y16,c,y7]
    try rfl
   ·exact⟨by dsimp only;omega,by simp,by simp,by simp,by simp,by simp,tq.1,tq.2,by dsimp only;omega,by dsimp only;omega⟩
  ·refine⟨⟨key,till,5,[],[],[],xs⟩,q'+1, ?_,by omega,by omega, ?_⟩
   ·conv=>lhs;rw[hH]
    refine Bh (fn:=f51) rfl rfl ?_
    simp(maxSteps:=1000000) [Cm,Cc,C8,Cx,Ci,C9,Cj,Ck,Bw,Da,Ch,D7,-List.getD_eq_getElem?_getD,-List.map_map,f51,o1,p5,o2,w,e1,y16,eq_false c]
    try rfl
   ·exact⟨by dsimp only;omega,by simp,by simp,by simp,by simp,by simp,tq.1,tq.2,by dsimp only;omega,by dsimp only;omega⟩
end Go.Proofs.YtjdmiodinhlchaaGreat.Code

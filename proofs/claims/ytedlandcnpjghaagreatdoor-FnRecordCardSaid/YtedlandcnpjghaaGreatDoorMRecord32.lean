/- Lemmas (several texts in one). -/
import Derived.Test.YtedlandcnpjghaaGreatDoorMRecord7
import Derived.Test.YtedlandcnpjghaaGreatDoorMRecord8
import Derived.Test.YtedlandcnpjghaaGreatDoorMRecord16
import Derived.Test.YtedlandcnpjghaaGreatDoorMRecord17
import Derived.Test.YtedlandcnpjghaaGreatDoorMRecord31
set_option maxRecDepth 100000
set_option maxHeartbeats 4000000
set_option linter.unusedSimpArgs false
set_option linter.unusedVariables false
namespace Go.Proofs.YtedlandcnpjghaaGreatDoor.Code
open Go Go.Ev Go.Proofs
theorem l_8 (n0:Nat) (xs:List Bl) (hx:xs.length≤9223372036854775807) (ys:List Bl) (hy:ys.length=xs.length) (H:Hp): ∀ (n i:Nat) (e:Env),i+n=xs.length→e.get 0= .d (Bf xs)→e.get 1= .d (Bf ys)→e.get 5= .d (.int .i64 i)→
  ∃e',Bg (Bp (ev R) R.glob n0 Bg Bnz) [0,1,5] ⟨e,H⟩=some ((match Dy (Qe xs ys) n i with|some _=> .ret|none=> .exit 0),⟨e',H⟩)∧
   (∀j,Dy (Qe xs ys) n i=some j→e'.get 4= .d (.bool false))
 |0,i,e,hn,h0,h1,h5=>by
  have c: ¬ (i:Int)< (xs.length:Int):=by omega
  have c': ¬i<xs.length:=by omega
  have gy:i<ys.length→(ys.map D.str).getD i .nilp= .str (ys.getD i []):=fun h=>Dt ys i h
  rw[Bw]
  refine⟨?_, ?_, ?_⟩
  rotate_left
  ·simp[Ck,-List.getD_eq_getElem?_getD,-List.map_map,Bnz,h0,h1,h5,Bf,c,c',Dy,hy,gy]
   rfl
  ·intro j hj;simp[Dy] at hj
 |n+1,i,e,hn,h0,h1,h5=>by
  have c: (i:Int)< (xs.length:Int):=by omega
  have c':i<xs.length:=by omega
  have g:=Dt xs i c'
  have w1:IntKind.i64.wrap ((i:Int)+1)=((i+1:Nat):Int):=by rw[IntWalk.i64_in _ (by omega)];rfl
  have gy:i<ys.length→(ys.map D.str).getD i .nilp= .str (ys.getD i []):=fun h=>Dt ys i h
  have ih:=l_8 n0 xs hx ys hy H n (i+1)
  rw[Bw]
  generalize Bg (Bp (ev R) R.glob n0 Bg Bnz) [0,1,5]=F at ih⊢
  by_cases hb: ¬xs.getD i []=ys.getD i []
  ·skip
   refine⟨?_, ?_, ?_⟩
   rotate_left
   ·simp[Ck,-List.getD_eq_getElem?_getD,-List.map_map,Bnz,h0,h1,h5,Bf,c,c',g,Dy,Qe,hb,hy,gy]
    rfl
   ·intro j hj
    simp[Dy,Qe,hb,-List.getD_eq_getElem?_getD] at hj
    try subst hj
    simp[Ck,-List.getD_eq_getElem?_getD,-List.map_map]
  ·rw[Classical.not_not] at hb
   have hs:Dy (Qe xs ys) (n+1) i=Dy (Qe xs ys) n (i+1):=by simp[Dy,Qe,hb,-List.getD_eq_getElem?_getD]
   rw[hs]
   simp[Ck,-List.getD_eq_getElem?_getD,-List.map_map,Bnz,h0,h1,h5,Bf,c,c',g,w1,hb,hy,gy]
   refine ih _ (by omega) ?_ ?_ ?_<;>rfl
theorem Bq1 (H:Hp) (xs:List Bl) (hx:xs.length≤9223372036854775807):ev R 8 [.d (Bf xs), .d (Bf xs)] H=some (.d (.bool true),H):=by
 refine Bo (fn:=f8) rfl rfl ?_
 obtain⟨e',he,h1⟩:=l_8 (Bc H) xs hx xs rfl H xs.length 0 [(0, .d (Bf xs)),(1, .d (Bf xs)),(5, .d (.int .i64 0))] (by omega) rfl rfl rfl
 have hr:Dy (Qe xs xs) xs.length 0=none:=by
  cases hr:Dy (Qe xs xs) xs.length 0 with
  |none=>rfl
  |some j=>
   have:=(Un hr).2.2.1
   simp[Qe] at this
 simp only[hr] at he
 simp[Ck,-List.getD_eq_getElem?_getD,-List.map_map,f8,he]
theorem Br9 (xs:List Bl) (hx:xs.length≤9223372036854775807):Be (ev R) 8 [.d (Bf xs), .d (Bf xs)]=some (.d (.bool true)):=Bb fun H=>Bq1 H xs hx
def ShO (xss:List (List Bl)):Prop:=∀x∈xss,x.length≤14∧Bgh x
def daH (H:Hp) (bs:List Int) (q:Int) (g:Nat) (vs:List V):Hp:=ap H [.row 0 2 [.agg [.d (.int .i64 0), .nils 7]],rd bs q, .row g 1 vs]
def DaR (H:Hp) (bs:List Int) (q0:Int) (N i:Nat) (e:Env) (X:Hp):Prop:=
 ∃ (acc:List (List Bl)) (q:Int) (g:Nat),acc.length=i∧0≤q∧q≤q0+30*i∧ShO acc∧X=daH H bs q g ((Cg acc).map V.d)∧e.get 2= .ptr (Bc H) 0 0 0∧e.get 4= .ptr (Bc H+1) 0 0 0∧e.get 5= .slc (Bc H+2) g 0 i∧e.get 6= .d (.int .i64 ((N:Int) - i))
def DaE (H:Hp) (bs:List Int) (q0:Int) (N:Nat) (o:Out) (e:Env) (X:Hp):Prop:=
 o= .exit 0∧∃ (acc:List (List Bl)) (q:Int) (g:Nat),acc.length=N∧0≤q∧q≤q0+30*N∧ShO acc∧X=daH H bs q g ((Cg acc).map V.d)∧e.get 2= .ptr (Bc H) 0 0 0∧e.get 4= .ptr (Bc H+1) 0 0 0∧e.get 5= .slc (Bc H+2) g 0 N
theorem B3w (H:Hp) (bs:List Int) (hb:Dl bs) (N:Nat) (hN:N≤41) (q0:Int) (h0:0≤q0) (h1:q0≤100) (e:Env) (X:Hp) (hR:DaR H bs q0 N 0 e X):
  Gives (DaE H bs q0 N) (Bg (Bp (ev R) R.glob (Bc H) Bg Bdu) [2,4,5,6] ⟨e,X⟩):=by
 refine Dw (F:=Bp (ev R) R.glob (Bc H) Bg Bdu) (lv:=[2,4,5,6]) N (DaR H bs q0 N) (DaE H bs q0 N) ?_ ?_ N 0 e X (by omega) hR
 ·rintro e X ⟨acc,q,g,al,a0,a1,ha,rfl,g2,g4,g5,g6⟩
  have c: ¬ (0:Int)< (N:Int) - (N:Int):=by omega
  obtain⟨vs,hvs⟩: ∃vs,(Cg acc).map V.d=vs:=⟨_,rfl⟩
  rw[hvs]
  unfold daH
  simp(maxSteps:=1000000) [Cq,-List.getD_eq_getElem?_getD,-List.map_map,Bdu,g2,g4,g5,g6,c]
  exact⟨rfl,acc,q,g,al,a0,a1,ha,by rw[hvs];rfl,rfl,rfl,rfl⟩
 ·rintro i e X hi ⟨acc,q,g,al,a0,a1,ha,rfl,g2,g4,g5,g6⟩
  have c: (0:Int)< (N:Int) - (i:Int):=by omega
  have vl: ((Cg acc).map V.d).length=i:=by rw[List.length_map,Fx,al]
  obtain⟨vs,hvs⟩: ∃vs,(Cg acc).map V.d=vs:=⟨_,rfl⟩
  rw[hvs] at vl⊢
  obtain⟨us,q',e1,b1,b2,ul,us40⟩:=B28 (daH H bs q g vs) (Bc H+1) bs q (by unfold daH;rw[R9];rfl) hb a0 (by omega)
  unfold daH at e1⊢
  rw[Yn] at e1
  simp only[Bv] at e1
  have rm: (i+1)*24≤Cx:=by unfold Cx;omega
  have w:IntKind.i64.wrap ((N:Int) - (i:Int) - 1)=(N:Int) - (i:Int) - 1:=IntWalk.i64_in _ (by omega)
  simp(maxSteps:=1000000) [Cq,-List.getD_eq_getElem?_getD,-List.map_map,Bdu,g2,g4,g5,g6,c,hi,e1,rm,vl,w]
  refine⟨acc++[us],q',g+1,by simp[al],by omega,by omega,fun x hx=> ?_, ?_,rfl,rfl,rfl,by show V.d (.int .i64 ((N:Int) - (i:Int) - 1))=_;rw[show(N:Int) - (i:Int) - 1=(N:Int) - ((i+1:Nat):Int) by omega]⟩
  ·rcases List.mem_append.1 hx with hx|hx
   ·exact ha x hx
   ·rw[List.mem_singleton.1 hx];exact⟨ul,us40⟩
  ·unfold daH Cg at*
   rw[List.map_append,List.map_append,hvs]
   rfl
theorem Bxs (H:Hp) (bs:List Int) (q:Int) (g:Nat) (A:Ev.Obj) (xss:List (List Bl)) (n:Nat) (hn:xss.length=n):Wx (Bc H) (ap H [A,rd bs q, .row g 1 ((Cg xss).map V.d)]) (.slc (Bc H+2) g 0 n)=some (.d (.vals 1 (Cg xss))):=
 Bql rfl (Wz (Cg xss)) (by rw[Fx,hn])
theorem B3h (H:Hp) (bs:List Int) (h: ∀i,0≤bs.getD i 0∧bs.getD i 0≤255):
  ∃ (b:Ba) (xss:List (List Bl)),ev R 10 [.d (Pb bs)] H=some (.tup [.d (D6 b), .d (.vals 1 (Cg xss))],H)∧xss.length≤41∧ShO xss:=by
 have ho:=Beg bs h
 have o1:=fun H=>e_9 H bs
 have pk:=fun (A B:Ev.Obj) (q:Int) (n:Int) (h0:0≤q) (h1:q≤1000)=>Bnr (ap H [A,rd (F8 bs) q,B]) (Bc H+1) (F8 bs) q n (by rw[R9];rfl) ho h0 (by omega)
 simp only[Yn,Bv] at pk
 have p0:=pk (.row 0 2 [.agg [.d (.int .i64 0), .nils 7]]) (.row 0 1 []) 0 9 (by omega) (by omega)
 have p1:=pk (.row 0 2 [.agg [.d (.int .i64 0), .nils 7]]) (.row 0 1 []) 1 30 (by omega) (by omega)
 have p2:=pk (.row 0 2 [.agg [.d (.int .i64 0), .nils 7]]) (.row 0 1 []) 2 2 (by omega) (by omega)
 rw[show(0:Int)+1=1 from rfl] at p0
 rw[show(1:Int)+1=2 from rfl] at p1
 rw[show(2:Int)+1=3 from rfl] at p2
 obtain⟨k0,k1⟩:=Gp (F8 bs) 0 9 ho (by omega) (by omega)
 have k1:=k1 (by omega)
 obtain⟨j0,j1⟩:=Gp (F8 bs) 2 2 ho (by omega) (by omega)
 have j1:=j1 (by omega)
 have fin: ∀ (N:Nat) (q0:Int),N≤41→0≤q0→q0≤100→∃ (b:Ba) (xss:List (List Bl)) (q q2:Int) (g:Nat) (e':Env),Bg (Bp (ev R) R.glob (Bc H) Bg Bdu) [2,4,5,6] ⟨[(2, .ptr (Bc H) 0 0 0),(4, .ptr (Bc H+1) 0 0 0),(5, .slc (Bc H+2) 0 0 0),(6, .d (.int .i64 N))],ap H [.row 0 2 [.agg [.d (.int .i64 0), .nils 7]],rd (F8 bs) q0, .row 0 1 []]⟩=some (.exit 0,⟨e',ap H [.row 0 2 [.agg [.d (.int .i64 0), .nils 7]],rd (F8 bs) q, .row g 1 ((Cg xss).map V.d)]⟩)∧e'.get 2= .ptr (Bc H) 0 0 0∧e'.get 4= .ptr (Bc H+1) 0 0 0∧e'.get 5= .slc (Bc H+2) g 0 N∧xss.length=N∧ShO xss∧ev R 23 [.ptr (Bc H+1) 0 0 0] (ap H [.row 0 2 [.agg [.d (.int .i64 0), .nils 7]],rd (F8 bs) q, .row g 1 ((Cg xss).map V.d)])=some (.d (D6 b),ap H [.row 0 2 [.agg [.d (.int .i64 0), .nils 7]],rd (F8 bs) q2, .row g 1 ((Cg xss).map V.d)]):=by
  intro N q0 hN h0 h1
  obtain⟨o,e',X,he,rfl,xss,q,g,xl,a0,a1,hS,rfl,g2,g4,g5⟩:=(B3w H (F8 bs) ho N hN q0 h0 h1 [(2, .ptr (Bc H) 0 0 0),(4, .ptr (Bc H+1) 0 0 0),(5, .slc (Bc H+2) 0 0 0),(6, .d (.int .i64 N))] _ ⟨[],q0,0,rfl,h0,by omega,fun x hx=>by simp at hx,rfl,rfl,rfl,rfl,by show V.d (.int .i64 (N:Int))=V.d (.int .i64 ((N:Int) - ((0:Nat):Int)));rw[show(N:Int) - ((0:Nat):Int)=N by omega]⟩).out
  obtain⟨b,q2,e1,hL,c1,c2⟩:=B3l (daH H (F8 bs) q g ((Cg xss).map V.d)) (Bc H+1) (F8 bs) q (by unfold daH;rw[R9];rfl) ho a0 (by omega)
  unfold daH at e1 he
  rw[Yn] at e1
  exact⟨b,xss,q,q2,g,e',he,g2,g4,g5,xl,hS,e1⟩
 by_cases c:Db (F8 bs) 1 30=0
 ·obtain⟨j,hj⟩:=Int.eq_ofNat_of_zero_le j0
  rw[hj] at p2 j1
  obtain⟨b,xss,q,q2,g,e',he,g2,g4,g5,xl,hS,e1⟩:=fin (40+j) 3 (by omega) (by omega) (by omega)
  have w:IntKind.i64.wrap (40+(j:Int))=((40+j:Nat):Int):=by rw[IntWalk.i64_in _ (by omega)];omega
  have f:=Bxs H (F8 bs) q2 g (.row 0 2 [.d (D6 b)]) xss _ xl
  refine⟨b,xss, ?_,by omega,hS⟩
  refine Bo (fn:=f10) rfl rfl ?_
  generalize((40+j:Nat):Int)=J at*
  generalize 40+j=J' at*
  generalize(Cg xss).map V.d=vs at*
  simp(maxSteps:=1000000) [Cq,-List.getD_eq_getElem?_getD,-List.map_map,f10,o1,p0,p1,p2,c,w,he,g2,g4,g5,e1, ↓f]
 ·obtain⟨j,hj⟩:=Int.eq_ofNat_of_zero_le k0
  rw[hj] at p0 k1
  obtain⟨b,xss,q,q2,g,e',he,g2,g4,g5,xl,hS,e1⟩:=fin j 2 (by omega) (by omega) (by omega)
  have f:=Bxs H (F8 bs) q2 g (.row 0 2 [.d (D6 b)]) xss _ xl
  refine⟨b,xss, ?_,by omega,hS⟩
  refine Bo (fn:=f10) rfl rfl ?_
  generalize(Cg xss).map V.d=vs at*
  simp(maxSteps:=1000000) [Cq,-List.getD_eq_getElem?_getD,-List.map_map,f10,o1,p0,p1,eq_false c,he,g2,g4,g5,e1, ↓f]
theorem e_4 (H:Hp) (bs:List Int) (h: ∀i,0≤bs.getD i 0∧bs.getD i 0≤255):
  ∃ (n:Int) (xss:List (List Bl)),ev R 4 [.d (Pb bs)] H=some (.tup [.d (.int .i64 n), .d (.vals 1 (Cg xss))],H)∧xss.length≤41∧ShO xss∧ -1≤n∧n≤1000001:=by
 have ho:=Beg bs h
 have o1:=fun H=>e_9 H bs
 obtain⟨b,xss,e1,xl,hS⟩:=B3h (ap H [rd (F8 bs) 0]) bs h
 have e2:=B0w (ap H [rd (F8 bs) 0, .row 0 2 [.d (D6 b)]]) (Bc H) (F8 bs) 0 [0,5,1000000,-1,1000001] (by rw[Be4];rfl) ho (by omega) (by omega) (by simp) (by simp)
 rw[Bmc] at e2
 have hm:=X0 (F8 bs) 0 [0,5,1000000,-1,1000001] ho (by omega) (by omega) (by simp)
 generalize Bfo (F8 bs) 0 [0,5,1000000,-1,1000001]=n at*
 simp only[Bn6,List.map_cons,List.map_nil,Bv] at e2
 refine⟨n,xss, ?_,xl,hS, ?_⟩
 ·refine Bo (fn:=f4) rfl rfl ?_
  simp(maxSteps:=1000000) [Cq,-List.getD_eq_getElem?_getD,-List.map_map,f4,o1,e1,e2]
 ·simp only[List.mem_cons,List.not_mem_nil,or_false] at hm
  omega
theorem Bsr (now:Int) (xss:List (List Bl)) (hx:xss.length≤41): (Bap now xss).length≤1000000:=by
 unfold Bap
 split
 ·rename_i h
  obtain⟨h1,h2,h3⟩:=Rn h.2.2
  have a:=Lg _ (Mj now.toNat xss.length (by omega) (by omega))
  have b: ∀ (ys:List (List Bl)),(∀y∈ys,Jm y)→(Cz ys).length≤800*ys.length:=by
   intro ys
   induction ys with
   |nil=>intro _;simp[Cz]
   |cons y ys ih=>
    intro hy
    have h5:=ih fun z hz=>hy z (by simp[hz])
    have h6:=Lg y (hy y (by simp))
    simp only[Cz,List.length_append,List.length_cons]
    omega
  have c:=b xss h1
  rw[List.length_append]
  omega
 ·simp
theorem e_3 (H:Hp) (bs ms:List Int) (h: ∀i,0≤bs.getD i 0∧bs.getD i 0≤255):ev R 3 [.d (Pb bs), .d (Pb ms)] H=some (.d (.bool true),H):=by
 by_cases hbig:1048576<bs.length
 ·refine Bo (fn:=f3) rfl rfl ?_
  have hbig': (1048576:Int)< (bs.length:Int):=by omega
  simp(maxSteps:=1000000) [Cq,-List.getD_eq_getElem?_getD,-List.map_map,f3,hbig']
 have hbig': ¬ (1048576:Int)< (bs.length:Int):=by omega
 by_cases hmig:1048576<ms.length
 ·refine Bo (fn:=f3) rfl rfl ?_
  have hmig': (1048576:Int)< (ms.length:Int):=by omega
  simp(maxSteps:=1000000) [Cq,-List.getD_eq_getElem?_getD,-List.map_map,f3,hbig',hmig']
 have hmig': ¬ (1048576:Int)< (ms.length:Int):=by omega
 obtain⟨now,xss,ed,xl,hS,n1,n2⟩:=e_4 H bs h
 have hs: ∀i,(xss.getD i []).length≤1048576:=fun i=>by
  rw[List.getD_eq_getElem?_getD]
  by_cases hi:i<xss.length
  ·rw[List.getElem?_eq_getElem hi]
   have:=(hS _ (List.getElem_mem hi)).1
   simp only[Option.getD_some];omega
  ·rw[List.getElem?_eq_none (by omega)];simp
 have p1:=Bb (cl:=ev R) fun H=>e_5 H now (by omega) xss (by omega) hs
 have p2:=Bb (cl:=ev R) fun H=>e_6 H now xss (by omega) hs
 have rl:=Bsr now xss xl
 refine Bo (fn:=f3) rfl rfl ?_
 by_cases hr:Bap now xss=[]
 ·rw[hr] at p1 p2
  simp(maxSteps:=1000000) [Cq,-List.getD_eq_getElem?_getD,-List.map_map,f3,hbig',hmig',ed,p1,p2]
 have hk:0≤now∧now≤1000000∧Jr xss=true:=by
  unfold Bap at hr
  split at hr
  ·assumption
  ·exact absurd rfl hr
 obtain⟨k1,k2,k3⟩:=hk
 obtain⟨o1,o2,o3⟩:=Rn k3
 obtain⟨m,rfl⟩:=Int.eq_ofNat_of_zero_le k1
 have hv:Bap (m:Int) xss=Cj (Dg m xss.length)++Cz xss:=by
  unfold Bap
  rw[if_pos ⟨k1,k2,k3⟩,Int.toNat_natCast]
 have hp:=Bst m m (by omega) xss o1 o2 (by omega) [98,101,104,105,110,100]
 have hq:=fun j=>Bo7 m (by omega) xss o1 o2 (by omega) j
 rw[←List.append_assoc,←List.length_append,←hv] at hp
 rw[←hv] at hq
 have sl:0< (Bap (m:Int) xss).length:=List.length_pos_iff.2 hr
 generalize Bap (m:Int) xss=s at*
 have jl:=Nat.mod_lt ms.length sl
 obtain⟨j,hj⟩: ∃j,ms.length % s.length=j:=⟨_,rfl⟩
 rw[hj] at jl
 have p3:=Bb (cl:=ev R) fun H=>e_7 H (s++[98,101,104,105,110,100]) (by rw[List.length_append];simp only[List.length_cons,List.length_nil];omega)
 have p4:=Bb (cl:=ev R) fun H=>e_7 H (s.take j) (by rw[List.length_take];omega)
 rw[hp] at p3
 rw[hq j jl] at p4
 unfold Kk at p4
 dsimp only at p3 p4
 have t0:Cg []=[]:=rfl
 rw[t0] at p4
 have z0: ¬ (s.length:Int)=0:=by omega
 have tm: (ms.length:Int).tmod (s.length:Int)=(j:Int):=by rw[←hj,Int.tmod_eq_emod_of_nonneg (by omega)];rfl
 have b1: (0:Int)≤(j:Int):=by omega
 have b2: (j:Int)≤(s.length:Int):=by omega
 have b3:j≤s.length:=by omega
 have sr:s.length+6≤Bu:=by unfold Bu;omega
 have tl:=Fx xss
 have lp:=(Dw (F:=Bp (ev R) R.glob (Bc H) Bg Bu6) (lv:=[6,9,14]) xss.length
   (fun i e X=>X=H∧e.get 6= .d (.vals 1 (Cg xss))∧e.get 9= .d (.vals 1 (Cg xss))∧e.get 14= .d (.int .i64 i))
   (fun o e X=>o= .exit 0∧X=H)
   (by
    rintro e X ⟨rfl,g6,g9,g14⟩
    simp(maxSteps:=1000000) [Cq,-List.getD_eq_getElem?_getD,-List.map_map,Bu6,g6,g9,g14,tl])
   (by
    rintro i e X hi ⟨rfl,g6,g9,g14⟩
    have c: (i:Int)< (xss.length:Int):=by omega
    have c0: (0:Int)≤(i:Int):=by omega
    have g:=Rt xss i hi
    have q:=Br9 (xss.getD i []) (by have:=hs i;omega)
    have w1:IntKind.i64.wrap ((i:Int)+1)=((i+1:Nat):Int):=by rw[IntWalk.i64_in _ (by omega)];rfl
    generalize Cg xss=T at*
    generalize xss.getD i []=E at*
    simp(maxSteps:=1000000) [Cq,-List.getD_eq_getElem?_getD,-List.map_map,Bu6,g6,g9,g14,c,c0,hi,g,q,w1,tl])
   xss.length 0 [(6, .d (.vals 1 (Cg xss))),(9, .d (.vals 1 (Cg xss))),(14, .d (.int .i64 0))] H (by omega) ⟨rfl,rfl,rfl,rfl⟩).out
 obtain⟨o,e',X,he,rfl,rfl⟩:=lp
 generalize Cg xss=T at*
 simp(maxSteps:=1000000) [Cq,-List.getD_eq_getElem?_getD,-List.map_map,f3,hbig',hmig',ed,p1,p2,p3,p4,eq_false hr,z0,tm,b1,b2,b3,sr,he,tl]
end Go.Proofs.YtedlandcnpjghaaGreatDoor.Code

/- Lemmas (several texts in one). -/
import Derived.Test.YtedlandcnpjghaaGreatDoorMRecord7
import Derived.Test.YtedlandcnpjghaaGreatDoorMRecord13
set_option maxRecDepth 100000
set_option maxHeartbeats 4000000
set_option linter.unusedSimpArgs false
set_option linter.unusedVariables false
namespace Go.Proofs.YtedlandcnpjghaaGreatDoor.Code
open Go Go.Ev Go.Proofs
def aoP:ACode:=(f22.body.tl.tl).hd
def aoS:ACode:=f22.body.tl.tl.tl
theorem Byi:f22= { f22 with body:= .seq f22.body.hd f22.body.lv (.seq f22.body.tl.hd f22.body.tl.lv (.seq aoP f22.body.tl.tl.lv aoS)) } :=rfl
def R4 (g:Nat) (ts:List Bl):Ev.Obj:= .row g 1 ((ts.map D.str).map V.d)
theorem Ba3 {H:Hp} {r:Nat} {bs:List Int} {q:Int} (g:Nat) (us:List Bl) (k:Nat) (hk:k≤us.length):Wx (Bc H) (rh H r bs q [R4 g us]) (.slc (Bc H) g 0 k)=some (.d (Bf (us.take k))):=by
 have hl:=Br H r (rd bs q)
 show Wx (Bc H) (Bt (Bv H r (rd bs q)) (.row g 1 ((us.map D.str).map V.d))) _=_
 rw[←hl,Xo _ g 1 (us.map D.str) k (by simpa using hk)]
 simp[Bf]
theorem Byg (H:Hp) (r:Nat) (bs:List Int) (q:Int) (t0:Bl) (ts:List Bl) (hr:r<Bc H) (hb:Dl bs) (h0:0≤q) (h1:q≤1000000000) (env:Env) (g0:env.get 0= .ptr r 0 0 0) (g3:env.get 3= .slc (Bc H) 0 0 (ts.length+1)):
  ∃ (n1:Nat) (q':Int),(n1=ts.length+1∨(n1=1∧ts.length=2))∧q≤q'∧q'≤q+1∧Gives (fun o e' X=>o= .normal∧X=rh H r bs q' [R4 0 (t0::ts)]∧e'.get 0= .ptr r 0 0 0∧e'.get 3= .slc (Bc H) 0 0 n1) (Bp (ev R) R.glob (Bc H) Bg aoP ⟨env,rh H r bs q [R4 0 (t0::ts)]⟩):=by
 have p2:=fun l=>Ky (H:=H) (l:=l) (r:=r) (bs:=bs) (q:=q) 2 hr hb h0 (by omega)
 have li: (0:Int)< (ts.length:Int)+1:=by omega
 by_cases a:ts.length=2
 ·have a': (ts.length:Int)+1=3:=by omega
  by_cases b:Db bs q 2=0
  ·by_cases c:t0=[68,66,83,73,90,69]
   ·exact⟨1,q+1, .inr ⟨rfl,a⟩,by omega,by omega,by simp(maxSteps:=1000000) [Cq,Dj,D9,D5,Dn,Fa,Dp,Cw,Cs,D8,Dm,F5,-List.getD_eq_getElem?_getD,-List.map_map,aoP,f22,ACode.hd,ACode.tl,g0,g3,p2,a',b,eq_true c,R4,li,a]⟩
   ·by_cases d:t0=[70,76,85,83,72]
    ·exact⟨1,q+1, .inr ⟨rfl,a⟩,by omega,by omega,by simp(maxSteps:=1000000) [Cq,Dj,D9,D5,Dn,Fa,Dp,Cw,Cs,D8,Dm,F5,-List.getD_eq_getElem?_getD,-List.map_map,aoP,f22,ACode.hd,ACode.tl,g0,g3,p2,a',b,eq_false c,eq_true d,R4,li,a]⟩
    ·exact⟨_,q+1, .inl rfl,by omega,by omega,by simp(maxSteps:=1000000) [Cq,Dj,D9,D5,Dn,Fa,Dp,Cw,Cs,D8,Dm,F5,-List.getD_eq_getElem?_getD,-List.map_map,aoP,f22,ACode.hd,ACode.tl,g0,g3,p2,a',b,eq_false c,eq_false d,R4,li]⟩
  ·exact⟨_,q+1, .inl rfl,by omega,by omega,by simp(maxSteps:=1000000) [Cq,Dj,D9,D5,Dn,Fa,Dp,Cw,Cs,D8,Dm,F5,-List.getD_eq_getElem?_getD,-List.map_map,aoP,f22,ACode.hd,ACode.tl,g0,g3,p2,a',eq_false b,R4]⟩
 ·have a': ¬ (ts.length:Int)+1=3:=by omega
  exact⟨_,q, .inl rfl,by omega,by omega,by simp(maxSteps:=1000000) [Cq,Dj,D9,D5,Dn,Fa,Dp,Cw,Cs,D8,Dm,F5,-List.getD_eq_getElem?_getD,-List.map_map,aoP,f22,ACode.hd,ACode.tl,g0,g3,eq_false a',R4]⟩
def Bgh (ts:List Bl):Prop:=∀x∈ts,x.length≤40
def AoE (H:Hp) (r:Nat) (bs:List Int) (q:Int) (o:Out) (e:Env) (X:Hp):Prop:=
 o= .ret∧∃ (us:List Bl) (q':Int),fzV (Bc H) X (e.get 2)=some (.d (Bf us))∧Du X (Bc H)=Bv H r (rd bs q')∧q≤q'∧q'≤q+2∧us.length≤14∧Bgh us
theorem Byh (H:Hp) (r:Nat) (bs:List Int) (q:Int) (t0:Bl) (ts:List Bl) (hr:r<Bc H) (hb:Dl bs) (h0:0≤q) (h1:q≤1000000000) (h8:ts.length≤7) (hs:Bgh (t0::ts)) (n1:Nat) (hn:n1=ts.length+1∨(n1=1∧ts.length=2)) (env:Env) (g0:env.get 0= .ptr r 0 0 0) (g3:env.get 3= .slc (Bc H) 0 0 n1):
  Gives (AoE H r bs q) (Bp (ev R) R.glob (Bc H) Bg aoS ⟨env,rh H r bs q [R4 0 (t0::ts)]⟩):=by
 have p24:=fun l=>Ky (H:=H) (l:=l) (r:=r) (bs:=bs) (q:=q) 24 hr hb h0 (by omega)
 have n0:0<n1:=by omega
 have n0': (0:Int)< (n1:Int):=by omega
 have nl:n1≤ts.length+1:=by omega
 have tk: ∀ (us:List Bl) (k:Nat),Bgh us→Bgh (us.take k):=fun us k h x hx=>h x (List.mem_of_mem_take hx)
 have fv: ∀X g k,fzV (Bc H) X (.slc (Bc H) g 0 k)=Wx (Bc H) X (.slc (Bc H) g 0 k):=fun _ _ _=>rfl
 by_cases c0:Db bs q 24=0
 ·have pk:=fun l=>Ky (H:=H) (l:=l) (r:=r) (bs:=bs) (q:=q+1) n1 hr hb (by omega) (by omega)
  obtain⟨k0,k1⟩:=Gp bs (q+1) n1 hb (by omega) (by omega)
  have k1:=k1 (by omega)
  generalize Db bs (q+1) n1=z at*
  obtain⟨k,rfl⟩:=Int.eq_ofNat_of_zero_le k0
  have kl: (k:Int)≤(n1:Int):=by omega
  have kl':k≤n1:=by omega
  have f:=Ba3 (H:=H) (r:=r) (bs:=bs) (q:=q+1+1) 0 (t0::ts) k (by simp;omega)
  simp(maxSteps:=1000000) [Cq,Dj,D9,D5,Dn,Fa,Dp,Cw,Cs,D8,Dm,F5,-List.getD_eq_getElem?_getD,-List.map_map,aoS,f22,ACode.tl,g0,g3,p24,c0,pk,kl,kl',k0,R4]
  exact⟨rfl,(t0::ts).take k,q+1+1,f,by exact Cw ..,by omega,by omega,by simp;omega,tk _ _ hs⟩
 by_cases c1:Db bs q 24=1
 ·have rm: (n1+6)*16≤Cx:=by unfold Cx;omega
  have hm:Bgh ((t0::ts).take n1++[[109,111,114,101],[109,111,114,101],[109,111,114,101],[109,111,114,101],[109,111,114,101],[109,111,114,101]]):=fun x hx=>by
   rcases List.mem_append.1 hx with hx|hx
   ·exact tk _ n1 hs x hx
   ·simp only[List.mem_cons,List.not_mem_nil,or_false,or_self] at hx;rw[hx];simp
  have f:=Ba3 (H:=H) (r:=r) (bs:=bs) (q:=q+1) 1 ((t0::ts).take n1++[[109,111,114,101],[109,111,114,101],[109,111,114,101],[109,111,114,101],[109,111,114,101],[109,111,114,101]]) (n1+6) (by simp;omega)
  have ft: ((t0::ts).take n1++[[109,111,114,101],[109,111,114,101],[109,111,114,101],[109,111,114,101],[109,111,114,101],[109,111,114,101]]:List Bl).take (n1+6)=(t0::ts).take n1++[[109,111,114,101],[109,111,114,101],[109,111,114,101],[109,111,114,101],[109,111,114,101],[109,111,114,101]]:=List.take_of_length_le (by simp;omega)
  rw[ft] at f
  rcases hn with rfl| ⟨rfl,h3⟩
  ·rw[List.take_of_length_le (show(t0::ts).length≤ts.length+1 by simp)] at f hm
   simp(maxSteps:=1000000) [Cq,Dj,D9,D5,Dn,Fa,Dp,Cw,Cs,D8,Dm,F5,-List.getD_eq_getElem?_getD,-List.map_map,aoS,f22,ACode.tl,g0,g3,p24,c1,rm,R4]
   exact⟨rfl,_,q+1,by show Wx (Bc H) _ (V.slc (Bc H) 1 0 _)=_;simpa[R4] using f,by exact Cw ..,by omega,by omega,by simp;omega,hm⟩
  ·simp(maxSteps:=1000000) [Cq,Dj,D9,D5,Dn,Fa,Dp,Cw,Cs,D8,Dm,F5,-List.getD_eq_getElem?_getD,-List.map_map,aoS,f22,ACode.tl,g0,g3,p24,c1,rm,R4,h3]
   exact⟨rfl,_,q+1,by show Wx (Bc H) _ (V.slc (Bc H) 1 0 _)=_;simpa[R4] using f,by exact Cw ..,by omega,by omega,by simp,hm⟩
 by_cases c2:Db bs q 24=2
 ·have o1:=fun l=>Bm6 (H:=H) (l:=l) (r:=r) (bs:=bs) (q:=q+1) [[103,101,116],[70,76,85,83,72],[]] hr hb (by omega) (by omega) (by simp)
  have ol:=Ud bs (q+1) [[103,101,116],[70,76,85,83,72],[]] 40 (by simp)
  generalize ofV bs (q+1) [[103,101,116],[70,76,85,83,72],[]]=t at*
  simp only[Bf,List.map_cons,List.map_nil] at o1
  have f:=Ba3 (H:=H) (r:=r) (bs:=bs) (q:=q+1+1) 0 (t::ts) n1 (by simp;omega)
  have hs':Bgh (t::ts):=fun x hx=>by
   rcases List.mem_cons.1 hx with rfl|hx
   ·exact ol
   ·exact hs x (by simp[hx])
  simp(maxSteps:=1000000) [Cq,Dj,D9,D5,Dn,Fa,Dp,Cw,Cs,D8,Dm,F5,-List.getD_eq_getElem?_getD,-List.map_map,aoS,f22,ACode.tl,g0,g3,p24,c2,o1,n0,n0',R4]
  exact⟨rfl,(t::ts).take n1,q+1+1,f,by exact Cw ..,by omega,by omega,by simp;omega,tk _ _ hs'⟩
 by_cases c3:Db bs q 24=3
 ·have o1:=fun l=>Bm6 (H:=H) (l:=l) (r:=r) (bs:=bs) (q:=q+1) [[68,66,83,73,90,69],[70,76,85,83,72]] hr hb (by omega) (by omega) (by simp)
  have ol:=Ud bs (q+1) [[68,66,83,73,90,69],[70,76,85,83,72]] 40 (by simp)
  generalize ofV bs (q+1) [[68,66,83,73,90,69],[70,76,85,83,72]]=t at*
  simp only[Bf,List.map_cons,List.map_nil] at o1
  simp(maxSteps:=1000000) [Cq,Dj,D9,D5,Dn,Fa,Dp,Cw,Cs,D8,Dm,F5,-List.getD_eq_getElem?_getD,-List.map_map,aoS,f22,ACode.tl,g0,g3,p24,c3,o1,R4]
  exact⟨rfl,[t],q+1+1,rfl,by exact Cw ..,by omega,by omega,by simp,fun x hx=>by rw[List.mem_singleton.1 hx];exact ol⟩
 ·have f:=Ba3 (H:=H) (r:=r) (bs:=bs) (q:=q+1) 0 (t0::ts) n1 (by simp;omega)
  simp(maxSteps:=1000000) [Cq,Dj,D9,D5,Dn,Fa,Dp,Cw,Cs,D8,Dm,F5,-List.getD_eq_getElem?_getD,-List.map_map,aoS,f22,ACode.tl,g0,g3,p24,eq_false c0,eq_false c1,eq_false c2,eq_false c3,R4]
  exact⟨rfl,(t0::ts).take n1,q+1,f,by exact Cw ..,by omega,by omega,by simp;omega,tk _ _ hs⟩
theorem B28 (H:Hp) (r:Nat) (bs:List Int) (p:Int) (h:Ci H r=some (rd bs p)) (hb:Dl bs) (hp:0≤p) (hp2:p≤100000000):
  ∃ (us:List Bl) (q:Int),ev R 22 [.ptr r 0 0 0] H=some (.d (Bf us),Bv H r (rd bs q))∧p≤q∧q≤p+30∧us.length≤14∧Bgh us:=by
 have hr:=Fh h
 have hH:=Bla H r bs h
 obtain⟨ts,q,e1,a1,a2,l1,l8,hs⟩:=Bip (l:=[]) hr hb hp (show p≤1000000000 by omega)
 cases ts with
 |nil=>simp at l1
 |cons t0 ts=>
  simp only[List.length_cons,List.length_nil,Nat.add_zero,List.nil_append] at e1 l8
  obtain⟨n1,q1,hn,b1,b2,hP⟩:=Byg H r bs q t0 ts hr hb (by omega) (by omega) [(0, .ptr r 0 0 0),(3, .slc (Bc H) 0 0 (ts.length+1))] rfl rfl
  obtain⟨o,e',X',hp',rfl,rfl,g0,g3⟩:=hP.out
  obtain⟨o,e2,X2,hS,rfl,us,q2,f1,f2,b3,b4,ul,us40⟩:=(Byh H r bs q1 t0 ts hr hb (by omega) (by omega) (by omega) hs n1 hn [(0, .ptr r 0 0 0),(3, .slc (Bc H) 0 0 n1)] rfl rfl).out
  refine⟨us,q2, ?_,by omega,by omega,ul,us40⟩
  conv=>lhs;rw[hH]
  refine Bo (fn:=f22) rfl rfl ?_
  rw[Byi]
  unfold R4 at hp' hS
  simp only[List.map_cons] at hp' hS e1
  simp(maxSteps:=1000000) [Cq,Dj,D9,D5,Dn,Fa,Dp,Cw,Cs,D8,Dm,F5,-List.getD_eq_getElem?_getD,-List.map_map,f22,ACode.hd,ACode.tl,ACode.lv,e1,hp',g0,g3,hS, ↓f1, ↓f2]
end Go.Proofs.YtedlandcnpjghaaGreatDoor.Code

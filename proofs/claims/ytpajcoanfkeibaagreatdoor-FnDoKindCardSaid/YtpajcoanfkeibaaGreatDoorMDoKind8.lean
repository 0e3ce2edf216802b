/- Lemmas (several texts in one). -/
import Derived.Test.YtpajcoanfkeibaaGreatDoorMDoKind6
import Derived.Test.YtpajcoanfkeibaaGreatDoorMDoKind7
set_option maxRecDepth 100000
set_option linter.unusedSimpArgs false
set_option maxHeartbeats 4000000
set_option linter.unusedVariables false
open List renaming getD_eq_getElem?_getD → Cda, map_map → Cdb, take_length → Cdm, length_cons → Cdc
namespace Go.Proofs.YtpajcoanfkeibaaGreatDoor.Code
open Go Go.Ev Go.Proofs
theorem B3c (H:Hp) (a b c:Int):ev R 38 [.d (.int .i64 a), .d (.int .i64 b), .d (.int .i64 c)] H=some (.d (.bool (decide (a≥b) &&decide (a≤c))),H):=by
 refine Bh (fn:=f38) rfl rfl ?_
 by_cases h1:a≥b<;>by_cases h2:a≤c<;>
 simp[evE,-Cda,-Cdb,f38,h1,h2]
theorem B8d (H:Hp) (a b c:Int):ev R 48 [.d (.int .i64 a), .d (.int .i64 b), .d (.int .i64 c)] H=some (.d (.bool (decide (a≥b) &&decide (a≤c))),H):=by
 refine Bh (fn:=f48) rfl rfl ?_
 by_cases h1:a≥b<;>by_cases h2:a≤c<;>
 simp[evE,-Cda,-Cdb,f48,h1,h2]
theorem Pt (a b c:Int):Be (ev R) 38 [.d (.int .i64 a), .d (.int .i64 b), .d (.int .i64 c)]=some (.d (.bool (decide (a≥b) &&decide (a≤c)))):=Bb fun H=>B3c H a b c
theorem Bck (a b c:Int):Be (ev R) 48 [.d (.int .i64 a), .d (.int .i64 b), .d (.int .i64 c)]=some (.d (.bool (decide (a≥b) &&decide (a≤c)))):=Bb fun H=>B8d H a b c
def bit (s:List UInt8) (i:Int):Int:=if i / 8≥s.length then 0 else((s.getD (i / 8).toNat 0).toNat:Int) / (2 ^ (7 - i % 8).toNat) % 2
def Dp (w:Br) (k:Int) (f:D):D:= .agg [.str w, .int .i64 k,f]
def Rj:List D:=[.str [71,69,84], .str [83,84,82,76,69,78], .str [83,69,84], .str [65,80,80,69,78,68], .str [71,69,84,82,65,78,71,69], .str [73,78,67,82], .str [73,78,67,82,66,89], .str [76,80,85,83,72], .str [82,80,85,83,72], .str [76,80,79,80], .str [82,80,79,80], .str [76,76,69,78], .str [76,82,65,78,71,69], .str [76,84,82,73,77], .str [76,83,69,84], .str [76,82,69,77], .str [83,65,68,68], .str [83,82,69,77], .str [83,77,69,77,66,69,82,83], .str [83,67,65,82,68], .str [83,73,83,77,69,77,66,69,82], .str [83,73,78,84,69,82], .str [83,85,78,73,79,78], .str [83,68,73,70,70], .str [90,65,68,68], .str [90,73,78,67,82,66,89], .str [90,82,69,77], .str [90,83,67,79,82,69], .str [90,82,65,78,75], .str [90,67,65,82,68], .str [90,82,65,78,71,69], .str [90,82,65,78,71,69,66,89,83,67,79,82,69], .str [72,83,69,84], .str [72,73,78,67,82,66,89], .str [72,71,69,84], .str [72,68,69,76], .str [72,71,69,84,65,76,76], .str [72,76,69,78], .str [68,69,76], .str [69,88,73,83,84,83], .str [84,89,80,69], .str [84,84,76], .str [80,69,82,83,73,83,84], .str [69,88,80,73,82,69], .str [69,88,80,73,82,69,65,84], .str [82,69,78,65,77,69], .str [75,69,89,83], .str [68,66,83,73,90,69], .str [70,76,85,83,72]]
def Rk:List D:=[Dp [75] 1 (.fn (.func 74) []),
 Dp [75] 1 (.fn (.func 77) []),
 Dp [75,84] 0 (.fn (.func 79) []),
 Dp [75,84] 1 (.fn (.func 81) []),
 Dp [75,78,78] 1 (.fn (.func 82) []),
 Dp [75] 1 (.fn (.func 85) []),
 Dp [75,78] 1 (.fn (.func 87) []),
 Dp [75,84,43] 2 (.fn (.func 178) [.rptr [.bool true]]),
 Dp [75,84,43] 2 (.fn (.func 178) [.rptr [.bool false]]),
 Dp [75] 2 (.fn (.func 180) [.rptr [.bool true]]),
 Dp [75] 2 (.fn (.func 180) [.rptr [.bool false]]),
 Dp [75] 2 (.fn (.func 90) []),
 Dp [75,78,78] 2 (.fn (.func 91) []),
 Dp [75,78,78] 2 (.fn (.func 94) []),
 Dp [75,78,84] 2 (.fn (.func 96) []),
 Dp [75,78,84] 2 (.fn (.func 98) []),
 Dp [75,84,43] 3 (.fn (.func 100) []),
 Dp [75,84,43] 3 (.fn (.func 102) []),
 Dp [75] 3 (.fn (.func 104) []),
 Dp [75] 3 (.fn (.func 105) []),
 Dp [75,84] 3 (.fn (.func 106) []),
 Dp [75,75] 3 (.fn (.func 109) []),
 Dp [75,75] 3 (.fn (.func 112) []),
 Dp [75,75] 3 (.fn (.func 114) []),
 Dp [75,78,84] 4 (.fn (.func 116) []),
 Dp [75,78,84] 4 (.fn (.func 118) []),
 Dp [75,84] 4 (.fn (.func 120) []),
 Dp [75,84] 4 (.fn (.func 122) []),
 Dp [75,84] 4 (.fn (.func 124) []),
 Dp [75] 4 (.fn (.func 125) []),
 Dp [75,78,78] 4 (.fn (.func 126) []),
 Dp [75,78,78] 4 (.fn (.func 129) []),
 Dp [75,70,84] 5 (.fn (.func 131) []),
 Dp [75,70,78] 5 (.fn (.func 133) []),
 Dp [75,70] 5 (.fn (.func 137) []),
 Dp [75,70] 5 (.fn (.func 138) []),
 Dp [75] 5 (.fn (.func 140) []),
 Dp [75] 5 (.fn (.func 141) []),
 Dp [75,43] 0 (.fn (.func 142) []),
 Dp [75,43] 0 (.fn (.func 143) []),
 Dp [75] 0 (.fn (.func 144) []),
 Dp [75] 0 (.fn (.func 145) []),
 Dp [75] 0 (.fn (.func 146) []),
 Dp [75,78] 0 (.fn (.func 147) []),
 Dp [75,78] 0 (.fn (.func 149) []),
 Dp [75,75] 0 (.fn (.func 150) []),
 Dp [80] 0 (.fn (.func 151) []),
 Dp [] 0 (.fn (.func 153) []),
 Dp [] 0 (.fn (.func 154) [])]
theorem Cav (t:Bool):Be (ev R) 88 [.d (.bool t)]=some (.d (.fn (.func 178) [.rptr [.bool t]])):=Bb fun H=>by
 refine Bh (fn:=f88) rfl rfl ?_
 simp[Cg,-Cda,-Cdb,f88,Yz,fz,Pb,Gp,C8]
theorem Caw (t:Bool):Be (ev R) 89 [.d (.bool t)]=some (.d (.fn (.func 180) [.rptr [.bool t]])):=Bb fun H=>by
 refine Bh (fn:=f89) rfl rfl ?_
 simp[Cg,-Cda,-Cdb,f89,Yz,fz,Pb,Gp,C8]
theorem B8g (H:Hp):ev R 54 [] H=some (.d (.mval Rj Rk),H):=by
 refine Bh (fn:=f54) rfl rfl ?_
 have p1:=fun t=>Cav t
 have p2:=fun t=>Caw t
 simp(maxSteps:=1000000) [Ci,-Cda,-Cdb,f54,p1,p2,Rj,Rk,Dp,Ev.Bdf,Bnj,Yz,fz,Pb,Gp]
theorem B68:Be (ev R) 54 []=some (.d (.mval Rj Rk)):=Bb fun H=>B8g H
theorem wl0:IntKind.i64.wrap 0=0:=IntWalk.i64_in _ (by omega)
theorem wl1:IntKind.i64.wrap 1=1:=IntWalk.i64_in _ (by omega)
theorem wl2:IntKind.i64.wrap 2=2:=IntWalk.i64_in _ (by omega)
theorem wl3:IntKind.i64.wrap 3=3:=IntWalk.i64_in _ (by omega)
theorem wl4:IntKind.i64.wrap 4=4:=IntWalk.i64_in _ (by omega)
theorem wl5:IntKind.i64.wrap 5=5:=IntWalk.i64_in _ (by omega)
theorem hsK:Be (ev R) 245 [.d (.str [75]), .d (.str [43])]=some (.d (.bool false)):=Bb fun H=>by
 refine Bh (fn:=f245) rfl rfl ?_
 simp(maxSteps:=1000000) [Ci,-Cda,-Cdb,f245,wl0,wl1,wl2,wl3,wl4,wl5]
theorem csK:Be (ev R) 192 [.d (.str [75]), .d (.str [43])]=some (.tup [.d (.str [75]), .d (.bool false)]):=Bb fun H=>by
 have p:=hsK
 refine Bh (fn:=f192) rfl rfl ?_
 simp(maxSteps:=1000000) [Ci,-Cda,-Cdb,f192,p,wl0,wl1,wl2,wl3,wl4,wl5]
theorem ctK:Be (ev R) 155 [.d (.str [75]), .d (.str [43])]=some (.tup [.d (.str [75]), .d (.bool false)]):=Bb fun H=>by
 have p:=csK
 refine Bh (fn:=f155) rfl rfl ?_
 simp(maxSteps:=1000000) [Ci,-Cda,-Cdb,f155,p]
theorem tsK:Be (ev R) 193 [.d (.str [75]), .d (.str [43])]=some (.d (.str [75])):=Bb fun H=>by
 have p:=hsK
 refine Bh (fn:=f193) rfl rfl ?_
 simp(maxSteps:=1000000) [Ci,-Cda,-Cdb,f193,p,wl0,wl1,wl2,wl3,wl4,wl5]
theorem ttK:Be (ev R) 156 [.d (.str [75]), .d (.str [43])]=some (.d (.str [75])):=Bb fun H=>by
 have p:=tsK
 refine Bh (fn:=f156) rfl rfl ?_
 simp(maxSteps:=1000000) [Ci,-Cda,-Cdb,f156,p]
theorem Bzu (k:Int) (c:D) (a0 a1:Br):Be (ev R) 55 [.d (.agg [.str [75], .int .i64 k,c]), .d (.vals 1 [.str a0, .str a1])]=some (.d (.bool true)):=Bb fun H=>by
 have p:=ctK
 have q:=Bck 2 2 8
 refine Bh (fn:=f55) rfl rfl ?_
 simp(maxSteps:=1000000) [Ci,-Cda,-Cdb,f55,p,q,wl0,wl1,wl2,wl3,wl4,wl5]
theorem B3w (k:Int) (c:D):Be (ev R) 56 [.d (.agg [.str [75], .int .i64 k,c]), .d (.int .i64 1)]=some (.d (.int .u8 75)):=Bb fun H=>by
 have p:=ttK
 refine Bh (fn:=f56) rfl rfl ?_
 simp(maxSteps:=1000000) [Ci,-Cda,-Cdb,f56,Xv,Bnk,p,wl0,wl1,wl2,wl3,wl4,wl5]
def Ki:Br→Br→Bool
 | [],s=>decide (s=[])
 |c::p,[]=>if c=42 then Ki p [] else false
 |c::p,x::s=>if c=42 then Ki p (x::s) ||Ki (c::p) s else(decide (c=63) ||decide (c=x)) &&Ki p s
termination_by p s=>p.length+s.length
theorem Bcj: ∀ (n:Nat) (p s:Br),p.length+s.length≤n→p.length≤1000000→s.length≤1000000→Be (ev R) 260 [.d (.str p), .d (.str s)]=some (.d (.bool (Ki p s)))
 |n,[],s,h,hp,hs=>Bb fun H=>by
  refine Bh (fn:=f260) rfl rfl ?_
  cases s with
  |nil=>simp(maxSteps:=1000000) [Ci,-Cda,-Cdb,f260,Ki]
  |cons x s=>simp(maxSteps:=1000000) [Ci,-Cda,-Cdb,f260,Ki]
 |0,c::p,s,h,hp,hs=>by simp at h
 |n+1,c::p,[],h,hp,hs=>Bb fun H=>by
  refine Bh (fn:=f260) rfl rfl ?_
  have l0: (0:Int)< (p.length:Int)+1:=by omega
  have l1: (1:Int)≤(p.length:Int)+1:=by omega
  have l2: (0:Int)≤(p.length:Int)+1:=by omega
  have tp:p.take p.length=p:=Cdm
  by_cases a:c=42
  ·subst a
   have ih:=Bcj n p [] (by simp at h⊢;omega) (by simp at hp;omega) (by simp)
   rw[Ki,if_pos rfl]
   cases hm:Ki p [] with
   |false=>rw[hm] at ih;simp(maxSteps:=1000000) [Ci,-Cda,-Cdb,f260,ih,l0,l1,l2,tp]
   |true=>rw[hm] at ih;simp(maxSteps:=1000000) [Ci,-Cda,-Cdb,f260,ih,l0,l1,l2,tp]
  ·have a': ¬c.toNat=42:=fun h=>a (UInt8.toNat_inj.1 h)
   have a'': ¬ (c.toNat:Int)=42:=fun h=>a' (by omega)
   rw[Ki,if_neg a]
   simp(maxSteps:=1000000) [Ci,-Cda,-Cdb,f260,l0,l1,l2,tp,eq_false a,eq_false a',eq_false a'']
 |n+1,c::p,x::s,h,hp,hs=>Bb fun H=>by
  refine Bh (fn:=f260) rfl rfl ?_
  have l0: (0:Int)< (p.length:Int)+1:=by omega
  have l1: (1:Int)≤(p.length:Int)+1:=by omega
  have l2: (0:Int)≤(p.length:Int)+1:=by omega
  have tp:p.take p.length=p:=Cdm
  have m0: (0:Int)< (s.length:Int)+1:=by omega
  have m1: (1:Int)≤(s.length:Int)+1:=by omega
  have m2: (0:Int)≤(s.length:Int)+1:=by omega
  have ts:s.take s.length=s:=Cdm
  simp only[Cdc] at h hp hs
  by_cases a:c=42
  ·subst a
   have ih:=Bcj n p (x::s) (by simp only[Cdc];omega) (by omega) (by simp only[Cdc];omega)
   have ih2:=Bcj n (42::p) s (by simp only[Cdc];omega) (by simp only[Cdc];omega) (by omega)
   rw[Ki,if_pos rfl]
   cases hm:Ki p (x::s) with
   |false=>rw[hm] at ih;simp(maxSteps:=1000000) [Ci,-Cda,-Cdb,f260,ih,ih2,l0,l1,l2,tp,m0,m1,m2,ts]
   |true=>rw[hm] at ih;simp(maxSteps:=1000000) [Ci,-Cda,-Cdb,f260,ih,l0,l1,l2,tp,m0,m1,m2,ts]
  ·have a': ¬c.toNat=42:=fun h=>a (UInt8.toNat_inj.1 h)
   have a'': ¬ (c.toNat:Int)=42:=fun h=>a' (by omega)
   have ih:=Bcj n p s (by omega) (by omega) (by omega)
   rw[Ki,if_neg a]
   by_cases b:c=63
   ·subst b
    simp(maxSteps:=1000000) [Ci,-Cda,-Cdb,f260,ih,l0,l1,l2,tp,m0,m1,m2,ts,eq_false a,eq_false a',eq_false a'']
   ·have b': ¬c.toNat=63:=fun h=>b (UInt8.toNat_inj.1 h)
    have b'': ¬ (c.toNat:Int)=63:=fun h=>b' (by omega)
    by_cases d:c=x
    ·subst d
     simp(maxSteps:=1000000) [Ci,-Cda,-Cdb,f260,ih,l0,l1,l2,tp,m0,m1,m2,ts,eq_false a,eq_false a',eq_false a'',eq_false b,eq_false b',eq_false b'']
    ·have d': ¬c.toNat=x.toNat:=fun h=>d (UInt8.toNat_inj.1 h)
     have d'': ¬ (c.toNat:Int)=(x.toNat:Int):=fun h=>d' (by omega)
     simp(maxSteps:=1000000) [Ci,-Cda,-Cdb,f260,l0,l1,l2,tp,m0,m1,m2,ts,eq_false a,eq_false a',eq_false a'',eq_false b,eq_false b',eq_false b'',eq_false d,eq_false d',eq_false d'']
theorem B64 (p s:Br) (hp:p.length≤1000000) (hs:s.length≤1000000):Be (ev R) 260 [.d (.str p), .d (.str s)]=some (.d (.bool (Ki p s))):=Bcj _ p s (Nat.le_refl _) hp hs
end Go.Proofs.YtpajcoanfkeibaaGreatDoor.Code

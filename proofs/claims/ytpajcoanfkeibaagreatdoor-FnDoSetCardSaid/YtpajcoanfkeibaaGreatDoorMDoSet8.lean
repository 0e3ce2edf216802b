/- Lemmas (several texts in one). -/
import Derived.Test.YtpajcoanfkeibaaGreatDoorMDoSet6
import Derived.Test.YtpajcoanfkeibaaGreatDoorMDoSet7
set_option maxRecDepth 100000
set_option linter.unusedSimpArgs false
set_option maxHeartbeats 4000000
set_option linter.unusedVariables false
namespace Go.Proofs.YtpajcoanfkeibaaGreatDoor.Code
open Go Go.Ev Go.Proofs
theorem B2x (H:Hp) (a b c:Int):ev R 38 [.d (.int .i64 a), .d (.int .i64 b), .d (.int .i64 c)] H=some (.d (.bool (decide (a≥b) &&decide (a≤c))),H):=by
 refine Bh (fn:=f38) rfl rfl ?_
 by_cases h1:a≥b<;>by_cases h2:a≤c<;>
 simp[evE,-List.getD_eq_getElem?_getD,-List.map_map,f38,h1,h2]
theorem B7t (H:Hp) (a b c:Int):ev R 48 [.d (.int .i64 a), .d (.int .i64 b), .d (.int .i64 c)] H=some (.d (.bool (decide (a≥b) &&decide (a≤c))),H):=by
 refine Bh (fn:=f48) rfl rfl ?_
 by_cases h1:a≥b<;>by_cases h2:a≤c<;>
 simp[evE,-List.getD_eq_getElem?_getD,-List.map_map,f48,h1,h2]
theorem P8 (a b c:Int):Bc (ev R) 38 [.d (.int .i64 a), .d (.int .i64 b), .d (.int .i64 c)]=some (.d (.bool (decide (a≥b) &&decide (a≤c)))):=Bb fun H=>B2x H a b c
theorem Y1 (a b c:Int):Bc (ev R) 48 [.d (.int .i64 a), .d (.int .i64 b), .d (.int .i64 c)]=some (.d (.bool (decide (a≥b) &&decide (a≤c)))):=Bb fun H=>B7t H a b c
def bit (s:List UInt8) (i:Int):Int:=if i / 8≥s.length then 0 else((s.getD (i / 8).toNat 0).toNat:Int) / (2 ^ (7 - i % 8).toNat) % 2
def Dq (w:Bq) (k:Int) (f:D):D:= .agg [.str w, .int .i64 k,f]
def Lm:List D:=[.str [71,69,84], .str [83,84,82,76,69,78], .str [83,69,84], .str [65,80,80,69,78,68], .str [71,69,84,82,65,78,71,69], .str [73,78,67,82], .str [73,78,67,82,66,89], .str [76,80,85,83,72], .str [82,80,85,83,72], .str [76,80,79,80], .str [82,80,79,80], .str [76,76,69,78], .str [76,82,65,78,71,69], .str [76,84,82,73,77], .str [76,83,69,84], .str [76,82,69,77], .str [83,65,68,68], .str [83,82,69,77], .str [83,77,69,77,66,69,82,83], .str [83,67,65,82,68], .str [83,73,83,77,69,77,66,69,82], .str [83,73,78,84,69,82], .str [83,85,78,73,79,78], .str [83,68,73,70,70], .str [90,65,68,68], .str [90,73,78,67,82,66,89], .str [90,82,69,77], .str [90,83,67,79,82,69], .str [90,82,65,78,75], .str [90,67,65,82,68], .str [90,82,65,78,71,69], .str [90,82,65,78,71,69,66,89,83,67,79,82,69], .str [72,83,69,84], .str [72,73,78,67,82,66,89], .str [72,71,69,84], .str [72,68,69,76], .str [72,71,69,84,65,76,76], .str [72,76,69,78], .str [68,69,76], .str [69,88,73,83,84,83], .str [84,89,80,69], .str [84,84,76], .str [80,69,82,83,73,83,84], .str [69,88,80,73,82,69], .str [69,88,80,73,82,69,65,84], .str [82,69,78,65,77,69], .str [75,69,89,83], .str [68,66,83,73,90,69], .str [70,76,85,83,72]]
def Lp:List D:=[Dq [75] 1 (.fn (.func 74) []),
 Dq [75] 1 (.fn (.func 77) []),
 Dq [75,84] 0 (.fn (.func 79) []),
 Dq [75,84] 1 (.fn (.func 81) []),
 Dq [75,78,78] 1 (.fn (.func 82) []),
 Dq [75] 1 (.fn (.func 85) []),
 Dq [75,78] 1 (.fn (.func 87) []),
 Dq [75,84,43] 2 (.fn (.func 178) [.rptr [.bool true]]),
 Dq [75,84,43] 2 (.fn (.func 178) [.rptr [.bool false]]),
 Dq [75] 2 (.fn (.func 180) [.rptr [.bool true]]),
 Dq [75] 2 (.fn (.func 180) [.rptr [.bool false]]),
 Dq [75] 2 (.fn (.func 90) []),
 Dq [75,78,78] 2 (.fn (.func 91) []),
 Dq [75,78,78] 2 (.fn (.func 94) []),
 Dq [75,78,84] 2 (.fn (.func 96) []),
 Dq [75,78,84] 2 (.fn (.func 98) []),
 Dq [75,84,43] 3 (.fn (.func 100) []),
 Dq [75,84,43] 3 (.fn (.func 102) []),
 Dq [75] 3 (.fn (.func 104) []),
 Dq [75] 3 (.fn (.func 105) []),
 Dq [75,84] 3 (.fn (.func 106) []),
 Dq [75,75] 3 (.fn (.func 109) []),
 Dq [75,75] 3 (.fn (.func 112) []),
 Dq [75,75] 3 (.fn (.func 114) []),
 Dq [75,78,84] 4 (.fn (.func 116) []),
 Dq [75,78,84] 4 (.fn (.func 118) []),
 Dq [75,84] 4 (.fn (.func 120) []),
 Dq [75,84] 4 (.fn (.func 122) []),
 Dq [75,84] 4 (.fn (.func 124) []),
 Dq [75] 4 (.fn (.func 125) []),
 Dq [75,78,78] 4 (.fn (.func 126) []),
 Dq [75,78,78] 4 (.fn (.func 129) []),
 Dq [75,70,84] 5 (.fn (.func 131) []),
 Dq [75,70,78] 5 (.fn (.func 133) []),
 Dq [75,70] 5 (.fn (.func 137) []),
 Dq [75,70] 5 (.fn (.func 138) []),
 Dq [75] 5 (.fn (.func 140) []),
 Dq [75] 5 (.fn (.func 141) []),
 Dq [75,43] 0 (.fn (.func 142) []),
 Dq [75,43] 0 (.fn (.func 143) []),
 Dq [75] 0 (.fn (.func 144) []),
 Dq [75] 0 (.fn (.func 145) []),
 Dq [75] 0 (.fn (.func 146) []),
 Dq [75,78] 0 (.fn (.func 147) []),
 Dq [75,78] 0 (.fn (.func 149) []),
 Dq [75,75] 0 (.fn (.func 150) []),
 Dq [80] 0 (.fn (.func 151) []),
 Dq [] 0 (.fn (.func 153) []),
 Dq [] 0 (.fn (.func 154) [])]
theorem Cab (t:Bool):Bc (ev R) 88 [.d (.bool t)]=some (.d (.fn (.func 178) [.rptr [.bool t]])):=Bb fun H=>by
 refine Bh (fn:=f88) rfl rfl ?_
 simp[Ch,-List.getD_eq_getElem?_getD,-List.map_map,f88,Td,fz,Nl,Gs,Cz]
theorem Cac (t:Bool):Bc (ev R) 89 [.d (.bool t)]=some (.d (.fn (.func 180) [.rptr [.bool t]])):=Bb fun H=>by
 refine Bh (fn:=f89) rfl rfl ?_
 simp[Ch,-List.getD_eq_getElem?_getD,-List.map_map,f89,Td,fz,Nl,Gs,Cz]
theorem B7w (H:Hp):ev R 54 [] H=some (.d (.mval Lm Lp),H):=by
 refine Bh (fn:=f54) rfl rfl ?_
 have p1:=fun t=>Cab t
 have p2:=fun t=>Cac t
 simp(maxSteps:=1000000) [Ca,-List.getD_eq_getElem?_getD,-List.map_map,f54,p1,p2,Lm,Lp,Dq,Ev.Bc9,Bnd,Td,fz,Nl,Gs]
theorem B0w:Bc (ev R) 54 []=some (.d (.mval Lm Lp)):=Bb fun H=>B7w H
theorem wl0:IntKind.i64.wrap 0=0:=IntWalk.i64_in _ (by omega)
theorem Mh:IntKind.i64.wrap 1=1:=IntWalk.i64_in _ (by omega)
theorem Mi:IntKind.i64.wrap 2=2:=IntWalk.i64_in _ (by omega)
theorem M3:IntKind.i64.wrap 3=3:=IntWalk.i64_in _ (by omega)
theorem Rl:IntKind.i64.wrap 4=4:=IntWalk.i64_in _ (by omega)
theorem wl5:IntKind.i64.wrap 5=5:=IntWalk.i64_in _ (by omega)
theorem hsK:Bc (ev R) 245 [.d (.str [75]), .d (.str [43])]=some (.d (.bool false)):=Bb fun H=>by
 refine Bh (fn:=f245) rfl rfl ?_
 simp(maxSteps:=1000000) [Ca,-List.getD_eq_getElem?_getD,-List.map_map,f245,wl0,Mh,Mi,M3,Rl,wl5]
theorem csK:Bc (ev R) 192 [.d (.str [75]), .d (.str [43])]=some (.tup [.d (.str [75]), .d (.bool false)]):=Bb fun H=>by
 have p:=hsK
 refine Bh (fn:=f192) rfl rfl ?_
 simp(maxSteps:=1000000) [Ca,-List.getD_eq_getElem?_getD,-List.map_map,f192,p,wl0,Mh,Mi,M3,Rl,wl5]
theorem ctK:Bc (ev R) 155 [.d (.str [75]), .d (.str [43])]=some (.tup [.d (.str [75]), .d (.bool false)]):=Bb fun H=>by
 have p:=csK
 refine Bh (fn:=f155) rfl rfl ?_
 simp(maxSteps:=1000000) [Ca,-List.getD_eq_getElem?_getD,-List.map_map,f155,p]
theorem tsK:Bc (ev R) 193 [.d (.str [75]), .d (.str [43])]=some (.d (.str [75])):=Bb fun H=>by
 have p:=hsK
 refine Bh (fn:=f193) rfl rfl ?_
 simp(maxSteps:=1000000) [Ca,-List.getD_eq_getElem?_getD,-List.map_map,f193,p,wl0,Mh,Mi,M3,Rl,wl5]
theorem ttK:Bc (ev R) 156 [.d (.str [75]), .d (.str [43])]=some (.d (.str [75])):=Bb fun H=>by
 have p:=tsK
 refine Bh (fn:=f156) rfl rfl ?_
 simp(maxSteps:=1000000) [Ca,-List.getD_eq_getElem?_getD,-List.map_map,f156,p]
theorem B22 (k:Int) (c:D) (a0 a1:Bq):Bc (ev R) 55 [.d (.agg [.str [75], .int .i64 k,c]), .d (.vals 1 [.str a0, .str a1])]=some (.d (.bool true)):=Bb fun H=>by
 have p:=ctK
 have q:=Y1 2 2 8
 refine Bh (fn:=f55) rfl rfl ?_
 simp(maxSteps:=1000000) [Ca,-List.getD_eq_getElem?_getD,-List.map_map,f55,p,q,wl0,Mh,Mi,M3,Rl,wl5]
theorem B73 (k:Int) (c:D):Bc (ev R) 56 [.d (.agg [.str [75], .int .i64 k,c]), .d (.int .i64 1)]=some (.d (.int .u8 75)):=Bb fun H=>by
 have p:=ttK
 refine Bh (fn:=f56) rfl rfl ?_
 simp(maxSteps:=1000000) [Ca,-List.getD_eq_getElem?_getD,-List.map_map,f56,Si,Bb4,p,wl0,Mh,Mi,M3,Rl,wl5]
theorem B25:Bc (ev R) 245 [.d (.str [75,84]), .d (.str [43])]=some (.d (.bool false)):=Bb fun H=>by
 refine Bh (fn:=f245) rfl rfl ?_
 simp(maxSteps:=1000000) [Ca,-List.getD_eq_getElem?_getD,-List.map_map,f245,wl0,Mh,Mi,M3,Rl,wl5]
theorem B7l:Bc (ev R) 192 [.d (.str [75,84]), .d (.str [43])]=some (.tup [.d (.str [75,84]), .d (.bool false)]):=Bb fun H=>by
 have p:=B25
 refine Bh (fn:=f192) rfl rfl ?_
 simp(maxSteps:=1000000) [Ca,-List.getD_eq_getElem?_getD,-List.map_map,f192,p,wl0,Mh,Mi,M3,Rl,wl5]
theorem B7n:Bc (ev R) 155 [.d (.str [75,84]), .d (.str [43])]=some (.tup [.d (.str [75,84]), .d (.bool false)]):=Bb fun H=>by
 have p:=B7l
 refine Bh (fn:=f155) rfl rfl ?_
 simp(maxSteps:=1000000) [Ca,-List.getD_eq_getElem?_getD,-List.map_map,f155,p]
theorem Ca7:Bc (ev R) 193 [.d (.str [75,84]), .d (.str [43])]=some (.d (.str [75,84])):=Bb fun H=>by
 have p:=B25
 refine Bh (fn:=f193) rfl rfl ?_
 simp(maxSteps:=1000000) [Ca,-List.getD_eq_getElem?_getD,-List.map_map,f193,p,wl0,Mh,Mi,M3,Rl,wl5]
theorem B6w:Bc (ev R) 156 [.d (.str [75,84]), .d (.str [43])]=some (.d (.str [75,84])):=Bb fun H=>by
 have p:=Ca7
 refine Bh (fn:=f156) rfl rfl ?_
 simp(maxSteps:=1000000) [Ca,-List.getD_eq_getElem?_getD,-List.map_map,f156,p]
theorem B0h (k:Int) (c:D) (a0 a1 a2:Bq):Bc (ev R) 55 [.d (.agg [.str [75,84], .int .i64 k,c]), .d (.vals 1 [.str a0, .str a1, .str a2])]=some (.d (.bool true)):=Bb fun H=>by
 have p:=B7n
 have q:=Y1 3 3 8
 refine Bh (fn:=f55) rfl rfl ?_
 simp(maxSteps:=1000000) [Ca,-List.getD_eq_getElem?_getD,-List.map_map,f55,p,q,wl0,Mh,Mi,M3,Rl,wl5]
theorem B3j (k:Int) (c:D):Bc (ev R) 56 [.d (.agg [.str [75,84], .int .i64 k,c]), .d (.int .i64 1)]=some (.d (.int .u8 75)):=Bb fun H=>by
 have p:=B6w
 refine Bh (fn:=f56) rfl rfl ?_
 simp(maxSteps:=1000000) [Ca,-List.getD_eq_getElem?_getD,-List.map_map,f56,Si,Bb4,p,wl0,Mh,Mi,M3,Rl,wl5]
theorem B3k (k:Int) (c:D):Bc (ev R) 56 [.d (.agg [.str [75,84], .int .i64 k,c]), .d (.int .i64 2)]=some (.d (.int .u8 84)):=Bb fun H=>by
 have p:=B6w
 refine Bh (fn:=f56) rfl rfl ?_
 simp(maxSteps:=1000000) [Ca,-List.getD_eq_getElem?_getD,-List.map_map,f56,Si,Bb4,p,wl0,Mh,Mi,M3,Rl,wl5]
theorem B24:Bc (ev R) 245 [.d (.str [75,43]), .d (.str [43])]=some (.d (.bool true)):=Bb fun H=>by
 refine Bh (fn:=f245) rfl rfl ?_
 simp(maxSteps:=1000000) [Ca,-List.getD_eq_getElem?_getD,-List.map_map,f245,wl0,Mh,Mi,M3,Rl,wl5]
theorem B7k:Bc (ev R) 192 [.d (.str [75,43]), .d (.str [43])]=some (.tup [.d (.str [75]), .d (.bool true)]):=Bb fun H=>by
 have p:=B24
 refine Bh (fn:=f192) rfl rfl ?_
 simp(maxSteps:=1000000) [Ca,-List.getD_eq_getElem?_getD,-List.map_map,f192,p,wl0,Mh,Mi,M3,Rl,wl5]
theorem B7m:Bc (ev R) 155 [.d (.str [75,43]), .d (.str [43])]=some (.tup [.d (.str [75]), .d (.bool true)]):=Bb fun H=>by
 have p:=B7k
 refine Bh (fn:=f155) rfl rfl ?_
 simp(maxSteps:=1000000) [Ca,-List.getD_eq_getElem?_getD,-List.map_map,f155,p]
theorem Ca6:Bc (ev R) 193 [.d (.str [75,43]), .d (.str [43])]=some (.d (.str [75])):=Bb fun H=>by
 have p:=B24
 refine Bh (fn:=f193) rfl rfl ?_
 simp(maxSteps:=1000000) [Ca,-List.getD_eq_getElem?_getD,-List.map_map,f193,p,wl0,Mh,Mi,M3,Rl,wl5]
theorem Ca8:Bc (ev R) 156 [.d (.str [75,43]), .d (.str [43])]=some (.d (.str [75])):=Bb fun H=>by
 have p:=Ca6
 refine Bh (fn:=f156) rfl rfl ?_
 simp(maxSteps:=1000000) [Ca,-List.getD_eq_getElem?_getD,-List.map_map,f156,p]
theorem B0g (k:Int) (c:D) (a0 a1:Bq):Bc (ev R) 55 [.d (.agg [.str [75,43], .int .i64 k,c]), .d (.vals 1 [.str a0, .str a1])]=some (.d (.bool true)):=Bb fun H=>by
 have p:=B7m
 have q:=Y1 2 2 8
 refine Bh (fn:=f55) rfl rfl ?_
 simp(maxSteps:=1000000) [Ca,-List.getD_eq_getElem?_getD,-List.map_map,f55,p,q,wl0,Mh,Mi,M3,Rl,wl5]
theorem B3i (k:Int) (c:D):Bc (ev R) 56 [.d (.agg [.str [75,43], .int .i64 k,c]), .d (.int .i64 1)]=some (.d (.int .u8 75)):=Bb fun H=>by
 have p:=Ca8
 refine Bh (fn:=f56) rfl rfl ?_
 simp(maxSteps:=1000000) [Ca,-List.getD_eq_getElem?_getD,-List.map_map,f56,Si,Bb4,p,wl0,Mh,Mi,M3,Rl,wl5]
def Kv:Bq→Bq→Bool
 | [],s=>decide (s=[])
 |c::p,[]=>if c=42 then Kv p [] else false
 |c::p,x::s=>if c=42 then Kv p (x::s) ||Kv (c::p) s else(decide (c=63) ||decide (c=x)) &&Kv p s
termination_by p s=>p.length+s.length
theorem Bce: ∀ (n:Nat) (p s:Bq),p.length+s.length≤n→p.length≤1000000→s.length≤1000000→Bc (ev R) 260 [.d (.str p), .d (.str s)]=some (.d (.bool (Kv p s)))
 |n,[],s,h,hp,hs=>Bb fun H=>by
  refine Bh (fn:=f260) rfl rfl ?_
  cases s with
  |nil=>simp(maxSteps:=1000000) [Ca,-List.getD_eq_getElem?_getD,-List.map_map,f260,Kv]
  |cons x s=>simp(maxSteps:=1000000) [Ca,-List.getD_eq_getElem?_getD,-List.map_map,f260,Kv]
 |0,c::p,s,h,hp,hs=>by simp at h
 |n+1,c::p,[],h,hp,hs=>Bb fun H=>by
  refine Bh (fn:=f260) rfl rfl ?_
  have l0: (0:Int)< (p.length:Int)+1:=by omega
  have l1: (1:Int)≤(p.length:Int)+1:=by omega
  have l2: (0:Int)≤(p.length:Int)+1:=by omega
  have tp:p.take p.length=p:=List.take_length
  by_cases a:c=42
  ·subst a
   have ih:=Bce n p [] (by simp at h⊢;omega) (by simp at hp;omega) (by simp)
   rw[Kv,if_pos rfl]
   cases hm:Kv p [] with
   |false=>rw[hm] at ih;simp(maxSteps:=1000000) [Ca,-List.getD_eq_getElem?_getD,-List.map_map,f260,ih,l0,l1,l2,tp]
   |true=>rw[hm] at ih;simp(maxSteps:=1000000) [Ca,-List.getD_eq_getElem?_getD,-List.map_map,f260,ih,l0,l1,l2,tp]
  ·have a': ¬c.toNat=42:=fun h=>a (UInt8.toNat_inj.1 h)
   have a'': ¬ (c.toNat:Int)=42:=fun h=>a' (by omega)
   rw[Kv,if_neg a]
   simp(maxSteps:=1000000) [Ca,-List.getD_eq_getElem?_getD,-List.map_map,f260,l0,l1,l2,tp,eq_false a,eq_false a',eq_false a'']
 |n+1,c::p,x::s,h,hp,hs=>Bb fun H=>by
  refine Bh (fn:=f260) rfl rfl ?_
  have l0: (0:Int)< (p.length:Int)+1:=by omega
  have l1: (1:Int)≤(p.length:Int)+1:=by omega
  have l2: (0:Int)≤(p.length:Int)+1:=by omega
  have tp:p.take p.length=p:=List.take_length
  have m0: (0:Int)< (s.length:Int)+1:=by omega
  have m1: (1:Int)≤(s.length:Int)+1:=by omega
  have m2: (0:Int)≤(s.length:Int)+1:=by omega
  have ts:s.take s.length=s:=List.take_length
  simp only[List.length_cons] at h hp hs
  by_cases a:c=42
  ·subst a
   have ih:=Bce n p (x::s) (by simp only[List.length_cons];omega) (by omega) (by simp only[List.length_cons];omega)
   have ih2:=Bce n (42::p) s (by simp only[List.length_cons];omega) (by simp only[List.length_cons];omega) (by omega)
   rw[Kv,if_pos rfl]
   cases hm:Kv p (x::s) with
   |false=>rw[hm] at ih;simp(maxSteps:=1000000) [Ca,-List.getD_eq_getElem?_getD,-List.map_map,f260,ih,ih2,l0,l1,l2,tp,m0,m1,m2,ts]
   |true=>rw[hm] at ih;simp(maxSteps:=1000000) [Ca,-List.getD_eq_getElem?_getD,-List.map_map,f260,ih,l0,l1,l2,tp,m0,m1,m2,ts]
  ·have a': ¬c.toNat=42:=fun h=>a (UInt8.toNat_inj.1 h)
   have a'': ¬ (c.toNat:Int)=42:=fun h=>a' (by omega)
   have ih:=Bce n p s (by omega) (by omega) (by omega)
   rw[Kv,if_neg a]
   by_cases b:c=63
   ·subst b
    simp(maxSteps:=1000000) [Ca,-List.getD_eq_getElem?_getD,-List.map_map,f260,ih,l0,l1,l2,tp,m0,m1,m2,ts,eq_false a,eq_false a',eq_false a'']
   ·have b': ¬c.toNat=63:=fun h=>b (UInt8.toNat_inj.1 h)
    have b'': ¬ (c.toNat:Int)=63:=fun h=>b' (by omega)
    by_cases d:c=x
    ·subst d
     simp(maxSteps:=1000000) [Ca,-List.getD_eq_getElem?_getD,-List.map_map,f260,ih,l0,l1,l2,tp,m0,m1,m2,ts,eq_false a,eq_false a',eq_false a'',eq_false b,eq_false b',eq_false b'']
    ·have d': ¬c.toNat=x.toNat:=fun h=>d (UInt8.toNat_inj.1 h)
     have d'': ¬ (c.toNat:Int)=(x.toNat:Int):=fun h=>d' (by omega)
     simp(maxSteps:=1000000) [Ca,-List.getD_eq_getElem?_getD,-List.map_map,f260,l0,l1,l2,tp,m0,m1,m2,ts,eq_false a,eq_false a',eq_false a'',eq_false b,eq_false b',eq_false b'',eq_false d,eq_false d',eq_false d'']
theorem B6i (p s:Bq) (hp:p.length≤1000000) (hs:s.length≤1000000):Bc (ev R) 260 [.d (.str p), .d (.str s)]=some (.d (.bool (Kv p s))):=Bce _ p s (Nat.le_refl _) hp hs
end Go.Proofs.YtpajcoanfkeibaaGreatDoor.Code

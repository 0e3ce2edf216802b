/- Lemmas (several texts in one). -/
import Derived.Test.YtjdmiodinhlchaaGreatMBasePut7
import Derived.Test.YtjdmiodinhlchaaGreatMBasePut9
import Derived.Test.YtjdmiodinhlchaaGreatMBasePut13
import Derived.Test.YtjdmiodinhlchaaGreatMBasePut14
import Derived.Test.YtjdmiodinhlchaaGreatMBasePut19
set_option maxRecDepth 100000
set_option maxHeartbeats 4000000
set_option linter.unusedSimpArgs false
set_option linter.unusedVariables false
namespace Go.Proofs.YtjdmiodinhlchaaGreat.Code
open Go Go.Ev Go.Proofs
def Xy (now:Int) (i:Nat) (p e:En):Bool:= !Gn e|| (decide (e.till≠0) &&decide (e.till≤now)) || (decide (0<i) && !Op.bytesLess p.key e.key)
def Ph (b:Ba) (i:Nat):Bool:=Xy b.now i (b.ents.getD (i - 1) default) (b.ents.getD i default)
def Js (b:Ba):Bool:= !Fj (Ph b) b.ents.length 0&& (decide (0≤b.now) &&decide (b.now≤1000000) &&decide (b.ents.length≤12))
theorem Bb9 (p:Nat→Bool): ∀ (n i:Nat),Bse (fun i (_:Unit)=>if p i=true then(.inr ():Unit ⊕ Unit) else .inl ()) n i ()=if Fj p n i=true then .inr () else .inl ()
 |0,i=>rfl
 |n+1,i=>by
  simp only[Bse,Fj]
  by_cases h:p i=true
  ·simp[h]
  ·simp only[h,if_false,Bool.false_or]
   exact Bb9 p n (i+1)
theorem Bni (now:Int) (i:Nat) (p e:En) {C:Prop} (k1:Gn e=false→Xy now i p e=true→C)
  (k2:Gn e=true→e.till≠0→e.till≤now→Xy now i p e=true→C)
  (k3:Gn e=true→(e.till=0∨(e.till≠0∧¬e.till≤now))→i=0→Xy now i p e=false→C)
  (k4:Gn e=true→(e.till=0∨(e.till≠0∧¬e.till≤now))→0<i→(∃x,Op.bytesLess p.key e.key=x∧Xy now i p e= !x)→C):C:=by
 unfold Xy at*
 by_cases h1:Gn e=true
 ·by_cases h2:e.till=0
  ·by_cases h4:i=0
   ·exact k3 h1 (.inl h2) h4 (by simp[h1,h2,h4])
   ·exact k4 h1 (.inl h2) (by omega) ⟨_,rfl,by simp[h1,h2,show 0<i by omega]⟩
  ·by_cases h3:e.till≤now
   ·exact k2 h1 h2 h3 (by simp[h1,h2,h3])
   ·by_cases h4:i=0
    ·exact k3 h1 (.inr ⟨h2,h3⟩) h4 (by simp[h1,h2,h3,h4])
    ·exact k4 h1 (.inr ⟨h2,h3⟩) (by omega) ⟨_,rfl,by simp[h1,h2,h3,show 0<i by omega]⟩
 ·exact k1 (by simpa using h1) (by simp[h1])
theorem Bi4 (b:Ba) (i:Nat) {C:Prop} (k1:Gn (b.ents.getD i default)=false→Ph b i=true→C)
  (k2:Gn (b.ents.getD i default)=true→(b.ents.getD i default).till≠0→(b.ents.getD i default).till≤b.now→Ph b i=true→C)
  (k3:Gn (b.ents.getD i default)=true→((b.ents.getD i default).till=0∨((b.ents.getD i default).till≠0∧¬ (b.ents.getD i default).till≤b.now))→i=0→Ph b i=false→C)
  (k4:Gn (b.ents.getD i default)=true→((b.ents.getD i default).till=0∨((b.ents.getD i default).till≠0∧¬ (b.ents.getD i default).till≤b.now))→0<i→(∃x,Op.bytesLess (b.ents.getD (i - 1) default).key (b.ents.getD i default).key=x∧Ph b i= !x)→C):C:=
 Bni _ _ _ _ k1 k2 k3 k4
theorem Bv1 (b:Ba) (hf:BaFit b):Be (ev R) 11 [.d (Dx b)]=some (.d (.bool (Js b))):=Bb fun H=>by
 refine Bh (fn:=f11) rfl rfl ?_
 have bx:1≤b.ents.length→0≤b.ents.length:=fun _=>Nat.zero_le _
 have key:=Bbg (F:=Bq (ev R) R.glob (Bc H) Bg R6) (lv:=[1,3]) (fun i (_:Unit)=>if Ph b i=true then(.inr ():Unit ⊕ Unit) else .inl ()) b.ents.length
  (fun i _ e X=>X=ap H [.row 0 2 [.d (Dx b)]]∧e.get 1= .ptr (Bc H) 0 0 0∧e.get 3= .d (.int .i64 i))
  (fun _ o e X=>o= .exit 0∧X=ap H [.row 0 2 [.d (Dx b)]]∧e.get 1= .ptr (Bc H) 0 0 0) (fun _ o e X=>o= .ret∧Dl X (Bc H)=H∧e.get 2= .d (.bool false))
  (by
   rintro s e X ⟨rfl,g1,g3⟩
   simp[X6,-List.getD_eq_getElem?_getD,-List.map_map,R6,g1,g3])
  (by
   rintro i s e X hi ⟨rfl,g1,g3⟩
   have c: (i:Int)< (b.ents.length:Int):=by have:=hi;omega
   have g:=Jk b.ents i hi
   have p:=Bb (cl:=ev R) fun H=>B01 H (b.ents.getD i default) (hf.each _ (Gp hi))
   have w1:IntKind.i64.wrap ((i:Int)+1)=((i+1:Nat):Int):=by rw[IntWalk.i64_in _ (by have:=hf.len;omega)];rfl
   refine Bi4 b i ?_ ?_ ?_ ?_
   ·intro h1 hb
    rw[hb]
    rw[h1] at p
    simp[X6,-List.getD_eq_getElem?_getD,-List.map_map,R6,g1,g3,c,hi,g,p]
   ·intro h1 h2 h3 hb
    rw[hb]
    rw[h1] at p
    simp[X6,-List.getD_eq_getElem?_getD,-List.map_map,R6,g1,g3,c,hi,g,p,h2,h3]
   ·intro h1 h2 h4 hb
    rw[hb]
    rw[h1] at p
    have c4: ¬ (0:Int)< (i:Int):=by omega
    have c5: ¬0<i:=by omega
    have c6:=eq_true h4
    rcases h2 with h2| ⟨h2,h3⟩
    ·have h2:=eq_true h2
     simp[X6,-List.getD_eq_getElem?_getD,-List.map_map,R6,g1,g3,c,c4,c5,c6,hi,g,p,h2,w1]
    ·simp[X6,-List.getD_eq_getElem?_getD,-List.map_map,R6,g1,g3,c,c4,c5,c6,hi,g,p,h2,h3,w1]
   ·rintro h1 h2 h4 ⟨x,hx,hb⟩
    rw[hb]
    rw[h1] at p
    have w2:IntKind.i64.wrap ((i:Int) - 1)=((i - 1:Nat):Int):=by rw[IntWalk.i64_in _ (by have:=hf.len;omega)];omega
    have gp:=Jk b.ents (i - 1) (by omega)
    have c3:i - 1<b.ents.length:=by omega
    have c4: (0:Int)< (i:Int):=by omega
    have c7: ¬i=0:=by omega
    cases x<;>rcases h2 with h2| ⟨h2,h3⟩
    ·have h2:=eq_true h2
     simp[X6,-List.getD_eq_getElem?_getD,-List.map_map,R6,g1,g3,c,c3,c4,c7,h4,hi,g,gp,p,h2,w2,hx]
    ·simp[X6,-List.getD_eq_getElem?_getD,-List.map_map,R6,g1,g3,c,c3,c4,c7,h4,hi,g,gp,p,h2,h3,w2,hx]
    ·have h2:=eq_true h2
     simp[X6,-List.getD_eq_getElem?_getD,-List.map_map,R6,g1,g3,c,c3,c4,c7,h4,hi,g,gp,p,h2,w1,w2,hx]
    ·simp[X6,-List.getD_eq_getElem?_getD,-List.map_map,R6,g1,g3,c,c3,c4,h4,hi,g,gp,p,h2,h3,w1,w2,hx])
  b.ents.length 0 () [(1, .ptr (Bc H) 0 0 0),(3, .d (.int .i64 0))] (ap H [.row 0 2 [.d (Dx b)]]) (by omega) ⟨rfl,rfl,rfl⟩
 rw[Bb9] at key
 obtain⟨o,e',X',he,hq⟩:=key.out
 have p1:=Pg b.now 0 1000000
 unfold Js
 by_cases h:Fj (Ph b) b.ents.length 0=true
 ·rw[if_pos h] at hq
  obtain⟨rfl,tk,g2⟩:=hq
  simp[X6,-List.getD_eq_getElem?_getD,-List.map_map,f11,he,tk,g2,h]
 ·rw[if_neg h] at hq
  obtain⟨rfl,rfl,g1⟩:=hq
  obtain⟨x,hx⟩: ∃x,(decide (b.now≥0) &&decide (b.now≤1000000))=x:=⟨_,rfl⟩
  rw[hx] at p1
  have hx': (decide (0≤b.now) &&decide (b.now≤1000000))=x:=hx
  rw[hx']
  cases x
  ·simp[X6,-List.getD_eq_getElem?_getD,-List.map_map,f11,he,g1,h,p1]
  ·by_cases n2:b.ents.length≤12
   ·have n3: (b.ents.length:Int)≤12:=by omega
    simp[X6,-List.getD_eq_getElem?_getD,-List.map_map,f11,he,g1,h,p1,n2,n3]
   ·have n3: ¬ (b.ents.length:Int)≤12:=by omega
    simp[X6,-List.getD_eq_getElem?_getD,-List.map_map,f11,he,g1,h,p1,n2,n3]
theorem Bhd (b:Ba) (hf:BaFit b):Be (ev R) 18 [.d (Dx b)]=some (.d (.bool (Js b))):=Bb fun H=>by
 refine Bh (fn:=f18) rfl rfl ?_
 have key:=Bbg (F:=Bq (ev R) R.glob (Bc H) Bg R8) (lv:=[1,16,17,18]) (fun i (_:Unit)=>if Ph b i=true then(.inr ():Unit ⊕ Unit) else .inl ()) b.ents.length
  (fun i _ e X=>X=ap H [.row 0 2 [.d (Dx b)]]∧e.get 1= .ptr (Bc H) 0 0 0∧e.get 16= .d (M7 b.ents)∧e.get 17= .d (.int .i64 b.ents.length)∧e.get 18= .d (.int .i64 i))
  (fun _ o e X=>o= .exit 0∧X=ap H [.row 0 2 [.d (Dx b)]]) (fun _ o e X=>o= .ret∧Dl X (Bc H)=H∧e.get 2= .d (.bool false))
  (by
   rintro s e X ⟨rfl,g1,g16,g17,g18⟩
   simp[X6,-List.getD_eq_getElem?_getD,-List.map_map,R8,g1,g16,g17,g18])
  (by
   rintro i s e X hi ⟨rfl,g1,g16,g17,g18⟩
   have c: (i:Int)< (b.ents.length:Int):=by have:=hi;omega
   have g:=Jk b.ents i hi
   have p:=Bb (cl:=ev R) fun H=>B5e H (b.ents.getD i default) (hf.each _ (Gp hi))
   have w1:IntKind.i64.wrap ((i:Int)+1)=((i+1:Nat):Int):=by rw[IntWalk.i64_in _ (by have:=hf.len;omega)];rfl
   have w2:0<i→IntKind.i64.wrap ((i:Int) - 1)=((i - 1:Nat):Int):=fun h4=>by rw[IntWalk.i64_in _ (by have:=hf.len;omega)];omega
   have gp:=fun h:0<i=>Jk b.ents (i - 1) (by omega)
   unfold Ph
   by_cases h1:Gn (b.ents.getD i default)=true
   ·rw[h1] at p
    by_cases h4:0<i
    ·have w2:=w2 h4
     have gp:=gp h4
     have c3:i - 1<b.ents.length:=by omega
     have c4: (0:Int)< (i:Int):=by omega
     have c7: ¬i=0:=by omega
     generalize b.ents.getD i default=E at*
     generalize b.ents.getD (i - 1) default=E0 at*
     unfold Xy
     rw[h1]
     obtain⟨x,hx⟩: ∃x,Op.bytesLess E0.key E.key=x:=⟨_,rfl⟩
     cases x
     ·simp[X6,-List.getD_eq_getElem?_getD,-List.map_map,R8,g1,g16,g17,g18,c,c3,c4,c7,h4,hi,g,gp,p,w2,hx]
     ·by_cases h2:E.till=0
      ·have h2:=eq_true h2
       simp[X6,-List.getD_eq_getElem?_getD,-List.map_map,R8,g1,g16,g17,g18,c,c3,c4,c7,h4,hi,g,gp,p,h2,w1,w2,hx]
      ·by_cases h3:E.till≤b.now
       ·simp[X6,-List.getD_eq_getElem?_getD,-List.map_map,R8,g1,g16,g17,g18,c,c3,c4,c7,h4,hi,g,gp,p,h2,h3,w1,w2,hx]
       ·simp[X6,-List.getD_eq_getElem?_getD,-List.map_map,R8,g1,g16,g17,g18,c,c3,c4,c7,h4,hi,g,gp,p,h2,h3,w1,w2,hx]
    ·have c4: ¬ (0:Int)< (i:Int):=by omega
     have c6: (i=0)=True:=eq_true (by omega)
     generalize b.ents.getD i default=E at*
     generalize b.ents.getD (i - 1) default=E0 at*
     unfold Xy
     rw[h1]
     by_cases h2:E.till=0
     ·have h2:=eq_true h2
      simp[X6,-List.getD_eq_getElem?_getD,-List.map_map,R8,g1,g16,g17,g18,c,c4,c6,h4,hi,g,p,h2,w1]
     ·by_cases h3:E.till≤b.now
      ·simp[X6,-List.getD_eq_getElem?_getD,-List.map_map,R8,g1,g16,g17,g18,c,c4,c6,h4,hi,g,p,h2,h3,w1]
      ·simp[X6,-List.getD_eq_getElem?_getD,-List.map_map,R8,g1,g16,g17,g18,c,c4,c6,h4,hi,g,p,h2,h3,w1]
   ·rw[Bool.not_eq_true] at h1
    rw[h1] at p
    generalize b.ents.getD i default=E at*
    unfold Xy
    rw[h1]
    simp[X6,-List.getD_eq_getElem?_getD,-List.map_map,R8,g1,g16,g17,g18,c,hi,g,p])
  b.ents.length 0 () [(1, .ptr (Bc H) 0 0 0),(16, .d (M7 b.ents)),(17, .d (.int .i64 b.ents.length)),(18, .d (.int .i64 0))] (ap H [.row 0 2 [.d (Dx b)]]) (by omega) ⟨rfl,rfl,rfl,rfl,rfl⟩
 rw[Bb9] at key
 obtain⟨o,e',X',he,hq⟩:=key.out
 have p1:=Bcs b.now 0 1000000
 unfold Js
 obtain⟨x,hx⟩: ∃x,(decide (b.now≥0) &&decide (b.now≤1000000))=x:=⟨_,rfl⟩
 rw[hx] at p1
 have hx': (decide (0≤b.now) &&decide (b.now≤1000000))=x:=hx
 rw[hx']
 cases x
 ·simp[X6,-List.getD_eq_getElem?_getD,-List.map_map,f18,p1]
 ·by_cases n2:b.ents.length≤12
  ·have n3: ¬ (12:Int)< (b.ents.length:Int):=by omega
   have n4: ¬12<b.ents.length:=by omega
   by_cases h:Fj (Ph b) b.ents.length 0=true
   ·rw[if_pos h] at hq
    obtain⟨rfl,tk,g2⟩:=hq
    simp[X6,-List.getD_eq_getElem?_getD,-List.map_map,f18,p1,n2,n3,n4,he,tk,g2,h]
   ·rw[if_neg h] at hq
    obtain⟨rfl,rfl⟩:=hq
    simp[X6,-List.getD_eq_getElem?_getD,-List.map_map,f18,p1,n2,n3,n4,he,h]
  ·have n3: (12:Int)< (b.ents.length:Int):=by omega
   have n4:12<b.ents.length:=by omega
   simp[X6,-List.getD_eq_getElem?_getD,-List.map_map,f18,p1,n2,n3,n4]
def S9 (now:Int) (e:En):Bool:=decide (e.till=0) ||decide (now<e.till)
def Bho (b:Ba) (n:Int):Ba:=⟨b.now+n,b.ents.filter (S9 (b.now+n))⟩
def Xr (b:Ba) (n:Int):Ba:=if Js b=true then(if 0≤n∧n≤1000000 - b.now then Bho b n else b) else⟨0,[]⟩
theorem B71 (b:Ba) (n:Int) (hb:BaSm b) (h1: -1000000000≤b.now∧b.now≤1000000000) (h2: -1000000000≤n∧n≤1000000000):Be (ev R) 37 [.d (Dx b), .d (.int .i64 n)]=some (.d (Dx (Bho b n))):=Bb fun H=>by
 refine Bh (fn:=f37) rfl rfl ?_
 have hbl:=hb.len
 unfold Bho
 obtain⟨N,hN⟩: ∃N,b.now+n=N:=⟨_,rfl⟩
 have w:IntKind.i64.wrap (b.now+n)=N:=by rw[IntWalk.i64_in _ (by omega),hN]
 rw[hN]
 obtain⟨o,e',X',he,rfl,rfl,g4,g5⟩:=(Dh (F:=Bq (ev R) R.glob (Bc H) Bg Uh) (lv:=[2,4,5,6]) b.ents.length
  (fun i e X=>X=ap H (Zv b N ((b.ents.take i).filter (S9 N)) H)∧e.get 2= .ptr (Bc H) 0 0 0∧e.get 4= .ptr (Bc H+1) 0 0 0∧e.get 5= .ptr (Bc H+2) 0 0 0∧e.get 6= .d (.int .i64 i))
  (fun o e X=>o= .exit 0∧X=ap H (Zv b N (b.ents.filter (S9 N)) H)∧e.get 4= .ptr (Bc H+1) 0 0 0∧e.get 5= .ptr (Bc H+2) 0 0 0)
  (by
   rintro e X ⟨rfl,g2,g4,g5,g6⟩
   rw[List.take_length]
   cases hz:b.ents.filter (S9 N) with
   |nil=>simp(maxSteps:=1000000) [Cm,-List.getD_eq_getElem?_getD,-List.map_map,Uh,g2,g4,g5,g6,Zv]
   |cons z r=>simp(maxSteps:=1000000) [Cm,-List.getD_eq_getElem?_getD,-List.map_map,Uh,g2,g4,g5,g6,Zv])
  (by
   rintro i e X hi ⟨rfl,g2,g4,g5,g6⟩
   have c: (i:Int)< (b.ents.length:Int):=by omega
   have c0: (0:Int)≤(i:Int):=by omega
   have g:=Jk b.ents i hi
   have p:=Bv4 (b.ents.getD i default) (hb.each _ (Gp hi))
   have w1:IntKind.i64.wrap ((i:Int)+1)=(i:Int)+1:=IntWalk.i64_in _ (by omega)
   rw[Pf _ b.ents i default hi]
   have hl:=Tj (S9 N) b.ents i hi
   have hs:S9 N (b.ents.getD i default)=(decide ((b.ents.getD i default).till=0) ||decide (N< (b.ents.getD i default).till)):=rfl
   generalize b.ents.getD i default=x at*
   generalize(b.ents.take i).filter (S9 N)=zs at*
   by_cases k:x.till=0
   ·have hs:S9 N x=true:=by rw[hs];simp[k]
    rw[hs]
    simp only[if_true]
    cases zs with
    |nil=>simp(maxSteps:=1000000) [Cm,-List.getD_eq_getElem?_getD,-List.map_map,Uh,g2,g4,g5,g6,c,c0,hi,g,p,w1,Zv,Cv,eq_true k]
    |cons z r=>
     have rm: (r.length+1+1)*120≤Cv:=by simp only[List.length_cons] at hl;unfold Cv;omega
     simp(maxSteps:=1000000) [Cm,-List.getD_eq_getElem?_getD,-List.map_map,Uh,g2,g4,g5,g6,c,c0,hi,g,p,w1,Zv,rm,eq_true k]
   ·by_cases j:N<x.till
    ·have hs:S9 N x=true:=by rw[hs];simp[j]
     rw[hs]
     simp only[if_true]
     cases zs with
     |nil=>simp(maxSteps:=1000000) [Cm,-List.getD_eq_getElem?_getD,-List.map_map,Uh,g2,g4,g5,g6,c,c0,hi,g,p,w1,Zv,Cv,eq_false k,eq_true j]
     |cons z r=>
      have rm: (r.length+1+1)*120≤Cv:=by simp only[List.length_cons] at hl;unfold Cv;omega
      simp(maxSteps:=1000000) [Cm,-List.getD_eq_getElem?_getD,-List.map_map,Uh,g2,g4,g5,g6,c,c0,hi,g,p,w1,Zv,rm,eq_false k,eq_true j]
    ·have hs:S9 N x=false:=by rw[hs];simp[k,j]
     rw[hs]
     simp only[Bool.false_eq_true,if_false,List.append_nil]
     cases zs with
     |nil=>simp(maxSteps:=1000000) [Cm,-List.getD_eq_getElem?_getD,-List.map_map,Uh,g2,g4,g5,g6,c,c0,hi,g,w1,Zv,eq_false k,eq_false j]
     |cons z r=>simp(maxSteps:=1000000) [Cm,-List.getD_eq_getElem?_getD,-List.map_map,Uh,g2,g4,g5,g6,c,c0,hi,g,w1,Zv,eq_false k,eq_false j])
  b.ents.length 0 [(2, .ptr (Bc H) 0 0 0),(4, .ptr (Bc H+1) 0 0 0),(5, .ptr (Bc H+2) 0 0 0),(6, .d (.int .i64 0))] (ap H (Zv b N [] H)) (by omega) ⟨rfl,rfl,rfl,rfl,rfl⟩).out
 cases hz:b.ents.filter (S9 N) with
 |nil=>
  rw[hz] at he
  simp only[Zv] at he
  simp(maxSteps:=1000000) [Cm,-List.getD_eq_getElem?_getD,-List.map_map,f37,w,he,g4,g5,Fx,hz,Zv]
 |cons z r=>
  rw[hz] at he
  simp only[Zv] at he
  simp(maxSteps:=1000000) [Cm,-List.getD_eq_getElem?_getD,-List.map_map,f37,w,he,g4,g5,hz,Zv]
  rfl
theorem Bwa {b:Ba} (h:BaG b) {n:Int} (h2:0≤b.now+n∧b.now+n≤2000000):BaG (Bho b n):=
 ⟨Nat.le_trans (List.length_filter_le _ _) h.len,fun e he=>h.each e (List.mem_filter.1 he).1,h2⟩
theorem Baa {b:Ba} (h:BaG b) (n:Int):BaG (Xr b n):=by
 unfold Xr
 split
 ·split
  ·exact Bwa h (by have:=h.now;omega)
  ·exact h
 ·exact⟨by simp,by simp,by simp⟩
theorem B7w (b:Ba) (n:Int) (hb:BaSm b) (hf:BaFit b) (h1: -1000000000≤b.now∧b.now≤1000000000) (h2: -1000000000≤n∧n≤1000000000):Be (ev R) 16 [.d (Dx b), .d (.int .i64 n)]=some (.d (Dx (Xr b n))):=Bb fun H=>by
 refine Bh (fn:=f16) rfl rfl ?_
 have p0:=Bnt b hb.len hb.each
 have z0:=Bxt b
 have t0:=Bwy b
 have p1:=Bv1 b hf
 have p2:=Pg n 0 (1000000 - b.now)
 have p3:=B71 b n hb h1 h2
 have w:IntKind.i64.wrap (1000000 - b.now)=1000000 - b.now:=IntWalk.i64_in _ (by omega)
 unfold Xr
 generalize Bho b n=T at*
 cases hk:Js b with
 |false=>rw[hk] at p1;simp(maxSteps:=1000000) [Cm,-List.getD_eq_getElem?_getD,-List.map_map,f16,p1,Fx]
 |true=>
  rw[hk] at p1
  by_cases a:0≤n
  ·by_cases c:n≤1000000 - b.now
   ·simp(maxSteps:=1000000) [Cm,-List.getD_eq_getElem?_getD,-List.map_map,f16,p0, ↓z0, ↓t0,p1,p2,p3,w,eq_true a,eq_true c]
   ·simp(maxSteps:=1000000) [Cm,-List.getD_eq_getElem?_getD,-List.map_map,f16,p0, ↓z0, ↓t0,p1,p2,p3,w,eq_true a,eq_false c]
  ·simp(maxSteps:=1000000) [Cm,-List.getD_eq_getElem?_getD,-List.map_map,f16,p0, ↓z0, ↓t0,p1,p2,p3,w,eq_false a]
theorem Zy: ∀ (x y:Bp),Op.bytesLess x y=decide (x<y)
 | [],[]=>by decide
 | [],_::_=>by simp[Op.bytesLess]
 |_::_,[]=>by simp[Op.bytesLess]
 |a::x,c::y=>by
  simp only[Op.bytesLess,Zy x y,List.cons_lt_cons_iff]
  by_cases h1:a<c
  ·simp[h1]
  ·by_cases h2:a=c
   ·subst h2;simp
   ·simp[h1,h2]
theorem Kr {x y z:Bp} (h1:Op.bytesLess x y=true) (h2:Op.bytesLess y z=true):Op.bytesLess x z=true:=by
 rw[Zy,decide_eq_true_eq] at*
 exact List.lt_trans h1 h2
theorem G8 (x:Bp):Op.bytesLess x x=false:=by
 rw[Zy,decide_eq_false_iff_not]
 exact List.lt_irrefl x
theorem Rc {x y:Bp} (h1:Op.bytesLess x y=false) (h2: ¬x=y):Op.bytesLess y x=true:=by
 rw[Zy] at*
 rw[decide_eq_false_iff_not] at h1
 rw[decide_eq_true_eq]
 have h3:=List.not_lt.1 h1
 rcases List.le_iff_lt_or_eq.1 h3 with h|h
 ·exact h
 ·exact absurd h.symm h2
def Bx2 (now:Int) (e:En):Prop:=e.till=0∨now<e.till
structure BaO (b:Ba):Prop where
 now:0≤b.now∧b.now≤1000000
 len:b.ents.length≤12
 each: ∀e∈b.ents,Gn e=true∧Bx2 b.now e
 asc:b.ents.Pairwise fun a c=>Op.bytesLess a.key c.key=true
theorem Bah: ∀ (es:List En),(∀i,0<i→i<es.length→Op.bytesLess (es.getD (i - 1) default).key (es.getD i default).key=true)→es.Pairwise fun a c=>Op.bytesLess a.key c.key=true
 | [],_=>List.Pairwise.nil
 | [x],_=>List.pairwise_singleton _ _
 |x::y::r,h=>by
  have ih:=Bah (y::r) fun i h1 h2=>by
   have:=h (i+1) (by omega) (by simp only[List.length_cons] at h2⊢;omega)
   have e1: (x::y::r).getD (i+1 - 1) default=(y::r).getD (i - 1) default:=by
    obtain⟨j,rfl⟩: ∃j,i=j+1:=⟨i - 1,by omega⟩
    rfl
   rw[e1] at this
   exact this
  have hxy:Op.bytesLess x.key y.key=true:=h 1 (by omega) (by simp)
  refine List.Pairwise.cons (fun z hz=> ?_) ih
  rcases List.mem_cons.1 hz with rfl|hz
  ·exact hxy
  ·exact Kr hxy (List.rel_of_pairwise_cons ih hz)
theorem Bkn {es:List En} (h:es.Pairwise fun a c=>Op.bytesLess a.key c.key=true) (i:Nat) (h0:0<i) (hi:i<es.length):Op.bytesLess (es.getD (i - 1) default).key (es.getD i default).key=true:=by
 have:=(List.pairwise_iff_getElem.1 h) (i - 1) i (by omega) hi (by omega)
 simpa[List.getD_eq_getElem?_getD,List.getElem?_eq_getElem hi,List.getElem?_eq_getElem (show i - 1<es.length by omega)] using this
theorem Ja (b:Ba):Js b=true↔BaO b:=by
 unfold Js
 simp only[Bool.and_eq_true,Bool.not_eq_true',decide_eq_true_eq]
 constructor
 ·rintro⟨h1,⟨h2,h3⟩,h4⟩
  have hb:=fun i (hi:i<b.ents.length)=>K4 h1 i (Nat.zero_le i) (by omega)
  refine⟨⟨h2,h3⟩,h4,Lp default fun i hi=> ?_,Bah _ fun i h0 hi=> ?_⟩
  ·have:=hb i hi
   unfold Ph Xy at this
   simp only[Bool.or_eq_false_iff,Bool.not_eq_false',Bool.and_eq_false_iff,decide_eq_false_iff_not] at this
   refine⟨this.1.1, ?_⟩
   unfold Bx2
   rcases this.1.2 with h|h
   ·exact .inl (Decidable.not_not.1 h)
   ·exact .inr (by omega)
  ·have:=hb i hi
   unfold Ph Xy at this
   simp only[Bool.or_eq_false_iff,Bool.not_eq_false',Bool.and_eq_false_iff,decide_eq_false_iff_not] at this
   rcases this.2 with h|h
   ·omega
   ·exact h
 ·intro h
  refine⟨U8 fun i _ hi=> ?_,h.now,h.len⟩
  have hi:i<b.ents.length:=by omega
  have he:=h.each _ (Gp hi:b.ents.getD i default∈b.ents)
  unfold Ph Xy
  rw[he.1]
  have h2: (decide ((b.ents.getD i default).till≠0) &&decide ((b.ents.getD i default).till≤b.now))=false:=by
   rw[Bool.and_eq_false_iff,decide_eq_false_iff_not,decide_eq_false_iff_not]
   rcases he.2 with h|h
   ·exact .inl (fun hn=>hn h)
   ·exact .inr (by omega)
  rw[h2]
  by_cases h0:0<i
  ·rw[Bkn h.asc i h0 hi];simp
  ·simp[h0]
theorem BaO.g {b:Ba} (h:BaO b):BaG b:=⟨h.len,fun e he=> (h.each e he).1,by have:=h.now;omega⟩
theorem Bgn {α:Type} (xs:List α) (k:Nat) (x:α): (D6 xs k x).Perm (x::xs):=by
 unfold D6
 refine List.perm_middle.trans ?_
 rw[List.take_append_drop]
theorem Q8 {α:Type} {xs:List α} {k:Nat} {x y:α} :y∈D6 xs k x↔y=x∨y∈xs:=by
 rw[(Bgn xs k x).mem_iff,List.mem_cons]
section
variable {α:Type} {lt:α→α→Bool}
theorem Bh9 {p:α→Bool} {xs:List α} (h:xs.Pairwise fun a c=>lt a c=true) (dn: ∀a c,lt a c=true→p c=true→p a=true):
  (∀a∈xs.take (xs.takeWhile p).length,p a=true)∧∀a∈xs.drop (xs.takeWhile p).length,p a=false:=by
 induction xs with
 |nil=>simp
 |cons x r ih=>
  have ih:=ih (List.Pairwise.of_cons h)
  rw[List.takeWhile_cons]
  cases h1:p x with
  |true=>
   simp only[if_true,List.length_cons,List.take_succ_cons,List.drop_succ_cons]
   refine⟨fun y hy=> ?_,ih.2⟩
   rcases List.mem_cons.1 hy with rfl|hy
   ·exact h1
   ·exact ih.1 y hy
  |false=>
   simp only[Bool.false_eq_true,if_false,List.length_nil,List.take_zero,List.drop_zero]
   refine⟨fun y hy=>by simp at hy,fun y hy=> ?_⟩
   rcases List.mem_cons.1 hy with rfl|hy
   ·exact h1
   ·cases h2:p y with
    |false=>rfl
    |true=>rw[dn _ _ (List.rel_of_pairwise_cons h hy) h2] at h1;simp at h1
theorem Brb {p:α→Bool} {xs:List α} {x:α} (h:xs.Pairwise fun a c=>lt a c=true) (dn: ∀a c,lt a c=true→p c=true→p a=true)
  (h1: ∀a∈xs,p a=true→lt a x=true) (h2: ∀a∈xs,p a=false→lt x a=true): (D6 xs (xs.takeWhile p).length x).Pairwise fun a c=>lt a c=true:=by
 have hp:=Bh9 h dn
 unfold D6
 have ha:=h
 rw[←List.take_append_drop (xs.takeWhile p).length xs] at ha
 obtain⟨k1,k2,k3⟩:=List.pairwise_append.1 ha
 refine List.pairwise_append.2 ⟨k1,List.pairwise_cons.2 ⟨fun y hy=>h2 y (List.mem_of_mem_drop hy) (hp.2 y hy),k2⟩,fun a ha y hy=> ?_⟩
 rcases List.mem_cons.1 hy with rfl|hy
 ·exact h1 a (List.mem_of_mem_take ha) (hp.1 a ha)
 ·exact k3 a ha y hy
theorem Bai (tr: ∀x y z,lt x y=true→lt y z=true→lt x z=true) (d:α): ∀ (es:List α),(∀i,0<i→i<es.length→lt (es.getD (i - 1) d) (es.getD i d)=true)→es.Pairwise fun a c=>lt a c=true
 | [],_=>List.Pairwise.nil
 | [x],_=>List.pairwise_singleton _ _
 |x::y::r,h=>by
  have ih:=Bai tr d (y::r) fun i h1 h2=>by
   have:=h (i+1) (by omega) (by simp only[List.length_cons] at h2⊢;omega)
   obtain⟨j,rfl⟩: ∃j,i=j+1:=⟨i - 1,by omega⟩
   exact this
  have hxy:lt x y=true:=h 1 (by omega) (by simp)
  refine List.Pairwise.cons (fun z hz=> ?_) ih
  rcases List.mem_cons.1 hz with rfl|hz
  ·exact hxy
  ·exact tr _ _ _ hxy (List.rel_of_pairwise_cons ih hz)
theorem Bkp {Q:α→α→Prop} (d:α) {es:List α} (h:es.Pairwise Q) {i j:Nat} (h0:i<j) (hj:j<es.length):Q (es.getD i d) (es.getD j d):=by
 have:=(List.pairwise_iff_getElem.1 h) i j (by omega) hj h0
 simpa[List.getD_eq_getElem?_getD,List.getElem?_eq_getElem hj,List.getElem?_eq_getElem (show i<es.length by omega)] using this
end
def sLt (x y:Sc):Bool:=Kn x.1 y.1 x.2 y.2
theorem Bfi (x y:Sc):sLt x y=true↔x.2<y.2∨(x.2=y.2∧Op.bytesLess x.1 y.1=true):=by
 unfold sLt Kn
 rw[Bool.or_eq_true,Bool.and_eq_true,decide_eq_true_eq,decide_eq_true_eq]
theorem Bd6 (x y z:Sc) (h1:sLt x y=true) (h2:sLt y z=true):sLt x z=true:=by
 rw[Bfi] at*
 rcases h1 with h1| ⟨h1,h1'⟩<;>rcases h2 with h2| ⟨h2,h2'⟩
 ·left;omega
 ·left;omega
 ·left;omega
 ·right;exact⟨by omega,Kr h1' h2'⟩
theorem Bo0 {x y:Sc} (h1:sLt x y=false) (h2: ¬x.1=y.1):sLt y x=true:=by
 have h1: ¬sLt x y=true:=by rw[h1];simp
 rw[Bfi] at h1
 rw[Bfi]
 by_cases h:y.2<x.2
 ·exact .inl h
 ·right
  have he:y.2=x.2:=by
   by_cases h3:x.2<y.2
   ·exact absurd (.inl h3) h1
   ·omega
  refine⟨he,Rc ?_ h2⟩
  cases hb:Op.bytesLess x.1 y.1 with
  |false=>rfl
  |true=>exact absurd (.inr ⟨he.symm,hb⟩) h1
def ScB (x:Sc):Prop:=x.1.length≤40∧ -1000000000≤x.2∧x.2≤1000000000
structure ScO (xs:List Sc):Prop where
 each: ∀x∈xs,ScB x
 asc:xs.Pairwise fun a c=>sLt a c=true
 uniq:xs.Pairwise fun a c=> ¬a.1=c.1
 len:xs.length≤16
theorem Pt (xs:List Sc):Dg xs=true↔ScO xs:=by
 constructor
 ·intro h
  refine⟨(Rl h).2, ?_, ?_,(Rl h).1⟩
  ·unfold Dg at h
   simp only[Bool.and_eq_true,decide_eq_true_eq,Bool.not_eq_true'] at h
   refine Bai Bd6 ([],0) _ fun i h0 hi=> ?_
   have:=K4 h.1 i (by omega) (by omega)
   unfold Lj at this
   simp only[Bool.or_eq_false_iff,Bool.and_eq_false_iff,decide_eq_false_iff_not,Bool.not_eq_false'] at this
   rcases this.1.2 with h|h
   ·omega
   ·exact h
  ·unfold Dg at h
   simp only[Bool.and_eq_true,decide_eq_true_eq,Bool.not_eq_true'] at h
   rw[List.pairwise_iff_getElem]
   intro i j hi hj hij he
   have:=K4 h.1 j (by omega) (by omega)
   unfold Lj at this
   simp only[Bool.or_eq_false_iff] at this
   have:=K4 this.2 i (by omega) (by omega)
   unfold Kl at this
   rw[decide_eq_false_iff_not] at this
   apply this
   simpa[List.getD_eq_getElem?_getD,List.getElem?_eq_getElem hi,List.getElem?_eq_getElem hj] using he
 ·intro h
  unfold Dg
  simp only[Bool.and_eq_true,decide_eq_true_eq,Bool.not_eq_true']
  refine⟨U8 fun i _ hi=> ?_,h.len⟩
  have hi:i<xs.length:=by omega
  have hb:=h.each _ (Gp hi:xs.getD i ([],0)∈xs)
  unfold Lj
  simp only[Bool.or_eq_false_iff,Bool.and_eq_false_iff,decide_eq_false_iff_not,Bool.not_eq_false',Bool.and_eq_true,decide_eq_true_eq]
  refine⟨⟨⟨by have:=hb.1;omega,hb.2.1,hb.2.2⟩, ?_⟩,U8 fun k _ hk=> ?_⟩
  ·by_cases h0:0<i
   ·exact .inr (Bkp ([],0) h.asc (by omega) hi)
   ·exact .inl h0
  ·unfold Kl
   rw[decide_eq_false_iff_not]
   exact Bkp ([],0) h.uniq (by omega) hi
theorem Bv9 {xs:List Sc} (h:ScO xs) {x:Sc} (hx:ScB x) (hl: (F7 xs x.1).length<16):ScO (Xi xs x):=by
 have hw: ∀y,y∈F7 xs x.1↔y∈xs∧¬y.1=x.1:=fun y=>by
  unfold F7
  rw[List.mem_filter]
  simp
 have hs: (F7 xs x.1).Sublist xs:=List.filter_sublist
 unfold Xi
 refine⟨fun y hy=> ?_, ?_, ?_,by rw[Fy];omega⟩
 ·rcases Q8.1 hy with rfl|hy
  ·exact hx
  ·exact h.each y ((hw y).1 hy).1
 ·unfold sAt
  refine Brb (lt:=sLt) (p:=fun y=>Kn y.1 x.1 y.2 x.2) (h.asc.sublist hs) (fun a c h1 h2=>Bd6 a c x h1 h2) (fun a _ h1=>h1) (fun a ha h1=>Bo0 h1 ((hw a).1 ha).2)
 ·rw[(Bgn _ _ _).pairwise_iff (fun h he=>h he.symm)]
  exact List.pairwise_cons.2 ⟨fun y hy he=> ((hw y).1 hy).2 he.symm,h.uniq.sublist hs⟩
def PrB (x:Pr):Prop:=x.1.length≤40∧x.2.length≤40
structure PrO (xs:List Pr):Prop where
 each: ∀x∈xs,PrB x
 asc:xs.Pairwise fun a c=>Op.bytesLess a.1 c.1=true
 len:xs.length≤16
theorem Pk (xs:List Pr):Dw xs=true↔PrO xs:=by
 unfold Dw
 simp only[Bool.and_eq_true,decide_eq_true_eq,Bool.not_eq_true']
 constructor
 ·rintro⟨h1,h2⟩
  have hb:=fun i (hi:i<xs.length)=>K4 h1 i (Nat.zero_le i) (by omega)
  refine⟨Lp ([],[]) fun i hi=> ?_,Bai (lt:=fun a c:Pr=>Op.bytesLess a.1 c.1) (fun x y z=>Kr) ([],[]) _ fun i h0 hi=> ?_,h2⟩
  ·have:=hb i hi
   unfold Li at this
   simp only[Bool.or_eq_false_iff,decide_eq_false_iff_not] at this
   exact⟨by omega,by omega⟩
  ·have:=hb i hi
   unfold Li at this
   simp only[Bool.or_eq_false_iff,Bool.and_eq_false_iff,decide_eq_false_iff_not,Bool.not_eq_false'] at this
   rcases this.2 with h|h
   ·omega
   ·exact h
 ·intro h
  refine⟨U8 fun i _ hi=> ?_,h.len⟩
  have hi:i<xs.length:=by omega
  have hb:=h.each _ (Gp hi:xs.getD i ([],[])∈xs)
  unfold Li
  simp only[Bool.or_eq_false_iff,Bool.and_eq_false_iff,decide_eq_false_iff_not,Bool.not_eq_false']
  refine⟨⟨by have:=hb.1;omega,by have:=hb.2;omega⟩, ?_⟩
  by_cases h0:0<i
  ·exact .inr (Bkp ([],[]) h.asc (by omega) hi)
  ·exact .inl h0
theorem Bge {xs:List Pr} (h:xs.Pairwise fun a c=>Op.bytesLess a.1 c.1=true) (t:Bp):Ma xs t=true↔∃x∈xs,x.1=t:=by
 have hp:=Bh9 (lt:=fun a c:Pr=>Op.bytesLess a.1 c.1) (p:=fun x:Pr=>Op.bytesLess x.1 t) h (fun a c=>Kr)
 unfold Ma
 rw[Bool.and_eq_true,decide_eq_true_eq,decide_eq_true_eq]
 constructor
 ·rintro⟨h1,h2⟩
  exact⟨_,Gp h1,h2⟩
 ·rintro⟨x,hx,rfl⟩
  rw[←List.take_append_drop (Rv xs x.1) xs] at hx
  rcases List.mem_append.1 hx with hx|hx
  ·have:=hp.1 x hx
   rw[G8] at this
   simp at this
  ·have hlt:Rv xs x.1<xs.length:=by
    have:=List.length_pos_of_mem hx
    rw[List.length_drop] at this;omega
   have hd:xs.drop (Rv xs x.1)=xs.getD (Rv xs x.1) ([],[])::xs.drop (Rv xs x.1+1):=by
    rw[List.drop_eq_getElem_cons hlt]
    simp[List.getD_eq_getElem?_getD,hlt]
   have hy:=hp.2 (xs.getD (Rv xs x.1) ([],[])) (by show _∈xs.drop (Rv xs x.1);rw[hd];simp)
   refine⟨hlt, ?_⟩
   rw[hd] at hx
   have hs:=h.sublist (List.drop_sublist (Rv xs x.1) xs)
   rw[hd] at hs
   rcases List.mem_cons.1 hx with hx|hx
   ·rw[←hx]
   ·have h3:=List.rel_of_pairwise_cons hs hx
    rw[h3] at hy
    simp at hy
theorem Bv8 {xs:List Pr} (h:PrO xs) {x:Pr} (hx:PrB x) (hl:Ma xs x.1=true∨xs.length<16):PrO (Rt xs x):=by
 unfold Rt
 split
 ·rename_i hf
  have hf2:=hf
  unfold Ma at hf2
  rw[Bool.and_eq_true,decide_eq_true_eq,decide_eq_true_eq] at hf2
  obtain⟨h1,h2⟩:=hf2
  have hk: (xs.set (Rv xs x.1) x).map (·.1)=xs.map (·.1):=by
   rw[List.map_set]
   apply List.ext_getElem (by simp)
   intro i hi1 hi2
   rw[List.getElem_set]
   split
   ·rename_i he
    subst he
    rw[List.getD_eq_getElem?_getD,List.getElem?_eq_getElem h1,Option.getD_some] at h2
    rw[List.getElem_map,h2]
   ·rfl
  refine⟨fun y hy=> ?_, ?_,by rw[List.length_set];exact h.len⟩
  ·rcases List.mem_or_eq_of_mem_set hy with hy|rfl
   ·exact h.each y hy
   ·exact hx
  ·have:=h.asc
   rw[←List.pairwise_map (f:=fun a:Pr=>a.1) (R:=fun a c=>Op.bytesLess a c=true)] at this⊢
   rw[hk]
   exact this
 ·rename_i hf
  have hne: ∀y∈xs,¬y.1=x.1:=fun y hy he=>hf ((Bge h.asc x.1).2 ⟨y,hy,he⟩)
  have hl:xs.length<16:=by rcases hl with h|h
                           ·exact absurd h hf
                           ·exact h
  refine⟨fun y hy=> ?_, ?_,by rw[Fy];omega⟩
  ·rcases Q8.1 hy with rfl|hy
   ·exact hx
   ·exact h.each y hy
  ·exact Brb (lt:=fun a c:Pr=>Op.bytesLess a.1 c.1) (p:=fun y=>Op.bytesLess y.1 x.1) h.asc (fun a c=>Kr) (fun a _ h1=>h1) (fun a ha h1=>Rc h1 (hne a ha))
theorem B04 (H:Hp) (xs:List Bp) (hx:xs.length≤1000000):ev R 60 [.d (Bf xs)] H=some (.slc (Bc H) 0 0 xs.length,ap H [.row 0 1 ((xs.map D.str).map V.d)]):=by
 refine Bh (fn:=f60) rfl rfl ?_
 have r:xs.length*16≤Cv:=by unfold Cv;omega
 simp[Cn,-List.getD_eq_getElem?_getD,-List.map_map,f60,Bf,r,Ug]
theorem B73 (xs:List Bp) (hx:xs.length≤1000000):Gg (ev R) 60 [.d (Bf xs)]=some (.d (Bf xs)):=by
 refine Jm fun H=> ⟨_,_,B04 H xs hx, ?_,Mh H _⟩
 simp[Cn,-List.getD_eq_getElem?_getD,-List.map_map,Bf]
theorem B35 (xs:List Bp) (hx:xs.length≤1000000):Be (ev R) 60 [.d (Bf xs)]=none:=by
 cases h:Be (ev R) 60 [.d (Bf xs)] with
 |none=>rfl
 |some v=>
  have h1:=D8 h []
  rw[B04 [] xs hx] at h1
  simp[ap] at h1
theorem B05 (H:Hp) (xs:List Sc) (hx:xs.length≤1000000):ev R 61 [.d (Dr xs)] H=some (.slc (Bc H) 0 0 xs.length,ap H [.row 0 2 ((xs.map Jq).map V.d)]):=by
 refine Bh (fn:=f61) rfl rfl ?_
 have r:xs.length*24≤Cv:=by unfold Cv;omega
 simp[Cn,-List.getD_eq_getElem?_getD,-List.map_map,f61,r,Ug]
theorem B74 (xs:List Sc) (hx:xs.length≤1000000):Gg (ev R) 61 [.d (Dr xs)]=some (.d (Dr xs)):=by
 refine Jm fun H=> ⟨_,_,B05 H xs hx, ?_,Mh H _⟩
 simp[Cn,-List.getD_eq_getElem?_getD,-List.map_map]
theorem B36 (xs:List Sc) (hx:xs.length≤1000000):Be (ev R) 61 [.d (Dr xs)]=none:=by
 cases h:Be (ev R) 61 [.d (Dr xs)] with
 |none=>rfl
 |some v=>
  have h1:=D8 h []
  rw[B05 [] xs hx] at h1
  simp[ap] at h1
theorem B06 (H:Hp) (xs:List Pr) (hx:xs.length≤1000000):ev R 62 [.d (Fs xs)] H=some (.slc (Bc H) 0 0 xs.length,ap H [.row 0 2 ((xs.map Ka).map V.d)]):=by
 refine Bh (fn:=f62) rfl rfl ?_
 have r:xs.length*32≤Cv:=by unfold Cv;omega
 simp[Cn,-List.getD_eq_getElem?_getD,-List.map_map,f62,r,Ug]
theorem B75 (xs:List Pr) (hx:xs.length≤1000000):Gg (ev R) 62 [.d (Fs xs)]=some (.d (Fs xs)):=by
 refine Jm fun H=> ⟨_,_,B06 H xs hx, ?_,Mh H _⟩
 simp[Cn,-List.getD_eq_getElem?_getD,-List.map_map]
theorem B37 (xs:List Pr) (hx:xs.length≤1000000):Be (ev R) 62 [.d (Fs xs)]=none:=by
 cases h:Be (ev R) 62 [.d (Fs xs)] with
 |none=>rfl
 |some v=>
  have h1:=D8 h []
  rw[B06 [] xs hx] at h1
  simp[ap] at h1
theorem Bv2 (e:En) (h:EnSm e):Be (ev R) 35 [.d (F6 e)]=some (.d (F6 e)):=Bb fun H=>by
 refine Bh (fn:=f35) rfl rfl ?_
 obtain⟨key,till,kind,text,list,scores,fields⟩:=e
 obtain⟨h1,h2,h3⟩:=h
 dsimp only at h1 h2 h3
 have a1:=B73 list h1
 have a2:=B35 list h1
 have b1:=B74 scores h2
 have b2:=B36 scores h2
 have c1:=B75 fields h3
 have c2:=B37 fields h3
 simp[Cn,-List.getD_eq_getElem?_getD,-List.map_map,f35,a1,a2,b1,b2,c1,c2,Bf]
def cbH (b:Ba) (n:Int) (zs:List En) (H:Hp):Hp:=
 [.row 0 2 [.d (Dx b)], .row 0 2 [.agg [.d (.int .i64 0), .nils 7]], .row zs.length 7 ((zs.map F6).map V.d), .row 0 2 [.agg [.d (.int .i64 n), .slc (Bc H+2) zs.length 0 zs.length]]]
theorem Bvh (b:Ba) (hb:b.ents.length≤1000000) (h: ∀e∈b.ents,EnSm e) (H:Hp):ev R 34 [.d (Dx b)] H=some (.agg [.d (.int .i64 b.now), .slc (Bc H) 0 0 b.ents.length],ap H [.row 0 7 ((b.ents.map F6).map V.d)]):=by
 refine Bh (fn:=f34) rfl rfl ?_
 obtain⟨o,e',X',he,rfl,rfl,g2,g3⟩:=(Dh (F:=Bq (ev R) R.glob (Bc H) Bg Ba5) (lv:=[2,3,11,12,13]) b.ents.length
  (fun i e X=>X=ap H (cbH b b.now (b.ents.take i) H)∧e.get 2= .ptr (Bc H+1) 0 0 0∧e.get 3= .ptr (Bc H+3) 0 0 0∧e.get 11= .d (M7 b.ents)∧e.get 12= .d (.int .i64 b.ents.length)∧e.get 13= .d (.int .i64 i))
  (fun o e X=>o= .exit 0∧X=ap H (cbH b b.now b.ents H)∧e.get 2= .ptr (Bc H+1) 0 0 0∧e.get 3= .ptr (Bc H+3) 0 0 0)
  (by
   rintro e X ⟨rfl,g2,g3,g11,g12,g13⟩
   rw[List.take_length]
   simp(maxSteps:=1000000) [Cm,-List.getD_eq_getElem?_getD,-List.map_map,Ba5,g2,g3,g11,g12,g13,cbH])
  (by
   rintro i e X hi ⟨rfl,g2,g3,g11,g12,g13⟩
   have c: (i:Int)< (b.ents.length:Int):=by omega
   have c0: (0:Int)≤(i:Int):=by omega
   have g:=Jk b.ents i hi
   have p:=Bv2 (b.ents.getD i default) (h _ (Gp hi))
   have w1:IntKind.i64.wrap ((i:Int)+1)=(i:Int)+1:=IntWalk.i64_in _ (by omega)
   have hs:=Jv b.ents i default hi
   have hl: (b.ents.take i).length=i:=by rw[List.length_take];omega
   have hl2: (b.ents.take (i+1)).length=i+1:=by rw[List.length_take];omega
   have sf:List.map V.d (List.map F6 (b.ents.take i))++[V.d (F6 (b.ents.getD i default))]=List.map V.d (List.map F6 (b.ents.take (i+1))):=by rw[hs];simp
   clear hs
   generalize b.ents.getD i default=x at*
   generalize b.ents.take i=zs at*
   generalize b.ents.take (i+1)=ys at*
   have rm: (i+1)*120≤Cv:=by unfold Cv;omega
   simp(maxSteps:=1000000) [Cm,-List.getD_eq_getElem?_getD,-List.map_map,Ba5,g2,g3,g11,g12,g13,c,c0,hi,g,p,w1,cbH,rm,hl,hl2,sf])
  b.ents.length 0 [(2, .ptr (Bc H+1) 0 0 0),(3, .ptr (Bc H+3) 0 0 0),(11, .d (M7 b.ents)),(12, .d (.int .i64 b.ents.length)),(13, .d (.int .i64 0))] (ap H (cbH b b.now [] H)) (by omega) ⟨rfl,rfl,rfl,rfl,rfl,rfl⟩).out
 simp only[cbH,List.map_nil,List.length_nil] at he
 simp(maxSteps:=1000000) [Cm,-List.getD_eq_getElem?_getD,-List.map_map,f34,he,g2,g3,Ug]
theorem B70 (b:Ba) (hb:BaSm b):Gg (ev R) 34 [.d (Dx b)]=some (.d (Dx b)):=by
 refine Jm fun H=> ⟨_,_,Bvh b hb.len hb.each H, ?_,Mh H _⟩
 simp[Cn,-List.getD_eq_getElem?_getD,-List.map_map]
theorem B34 (b:Ba) (hb:BaSm b):Be (ev R) 34 [.d (Dx b)]=none:=by
 cases h:Be (ev R) 34 [.d (Dx b)] with
 |none=>rfl
 |some v=>
  have h1:=D8 h []
  rw[Bvh b hb.len hb.each []] at h1
  simp[ap] at h1
end Go.Proofs.YtjdmiodinhlchaaGreat.Code

/- Lemmas (several texts in one). -/
import Derived.Test.YtjdmiodinhlchaaGreatMBaseDrop7
import Derived.Test.YtjdmiodinhlchaaGreatMBaseDrop9
import Derived.Test.YtjdmiodinhlchaaGreatMBaseDrop13
import Derived.Test.YtjdmiodinhlchaaGreatMBaseDrop19
set_option maxRecDepth 100000
set_option maxHeartbeats 4000000
set_option linter.unusedSimpArgs false
set_option linter.unusedVariables false
namespace Go.Proofs.YtjdmiodinhlchaaGreat.Code
open Go Go.Ev Go.Proofs
def R1 (now:Int) (i:Nat) (p e:En):Bool:= !Fc e|| (decide (e.till≠0) &&decide (e.till≤now)) || (decide (0<i) && !Op.bytesLess p.key e.key)
def Ln (b:Ba) (i:Nat):Bool:=R1 b.now i (b.ents.getD (i - 1) default) (b.ents.getD i default)
def F3 (b:Ba):Bool:= !De (Ln b) b.ents.length 0&& (decide (0≤b.now) &&decide (b.now≤1000000) &&decide (b.ents.length≤12))
theorem W5 (p:Nat→Bool): ∀ (n i:Nat),Bmt (fun i (_:Unit)=>if p i=true then(.inr ():Unit ⊕ Unit) else .inl ()) n i ()=if De p n i=true then .inr () else .inl ()
 |0,i=>rfl
 |n+1,i=>by
  simp only[Bmt,De]
  by_cases h:p i=true
  ·simp[h]
  ·simp only[h,if_false,Bool.false_or]
   exact W5 p n (i+1)
theorem Bh6 (now:Int) (i:Nat) (p e:En) {C:Prop} (k1:Fc e=false→R1 now i p e=true→C)
  (k2:Fc e=true→e.till≠0→e.till≤now→R1 now i p e=true→C)
  (k3:Fc e=true→(e.till=0∨(e.till≠0∧¬e.till≤now))→i=0→R1 now i p e=false→C)
  (k4:Fc e=true→(e.till=0∨(e.till≠0∧¬e.till≤now))→0<i→(∃x,Op.bytesLess p.key e.key=x∧R1 now i p e= !x)→C):C:=by
 unfold R1 at*
 by_cases h1:Fc e=true
 ·by_cases h2:e.till=0
  ·by_cases h4:i=0
   ·exact k3 h1 (.inl h2) h4 (by simp[h1,h2,h4])
   ·exact k4 h1 (.inl h2) (by omega) ⟨_,rfl,by simp[h1,h2,show 0<i by omega]⟩
  ·by_cases h3:e.till≤now
   ·exact k2 h1 h2 h3 (by simp[h1,h2,h3])
   ·by_cases h4:i=0
    ·exact k3 h1 (.inr ⟨h2,h3⟩) h4 (by simp[h1,h2,h3,h4])
    ·exact k4 h1 (.inr ⟨h2,h3⟩) (by omega) ⟨_,rfl,by simp[h1,h2,h3,show 0<i by omega]⟩
 ·exact k1 (by simpa using h1) (by simp[h1])
theorem Bdv (b:Ba) (i:Nat) {C:Prop} (k1:Fc (b.ents.getD i default)=false→Ln b i=true→C)
  (k2:Fc (b.ents.getD i default)=true→(b.ents.getD i default).till≠0→(b.ents.getD i default).till≤b.now→Ln b i=true→C)
  (k3:Fc (b.ents.getD i default)=true→((b.ents.getD i default).till=0∨((b.ents.getD i default).till≠0∧¬ (b.ents.getD i default).till≤b.now))→i=0→Ln b i=false→C)
  (k4:Fc (b.ents.getD i default)=true→((b.ents.getD i default).till=0∨((b.ents.getD i default).till≠0∧¬ (b.ents.getD i default).till≤b.now))→0<i→(∃x,Op.bytesLess (b.ents.getD (i - 1) default).key (b.ents.getD i default).key=x∧Ln b i= !x)→C):C:=
 Bh6 _ _ _ _ k1 k2 k3 k4
theorem Bl6 (b:Ba) (hf:BaFit b):Be (ev R) 11 [.d (Cv b)]=some (.d (.bool (F3 b))):=Bb fun H=>by
 refine Bi (fn:=f11) rfl rfl ?_
 have bx:1≤b.ents.length→0≤b.ents.length:=fun _=>Nat.zero_le _
 have key:=Wc (F:=Bo (ev R) R.glob (Bc H) Bg Nr) (lv:=[1,3]) (fun i (_:Unit)=>if Ln b i=true then(.inr ():Unit ⊕ Unit) else .inl ()) b.ents.length
  (fun i _ e X=>X=ap H [.row 0 2 [.d (Cv b)]]∧e.get 1= .ptr (Bc H) 0 0 0∧e.get 3= .d (.int .i64 i))
  (fun _ o e X=>o= .exit 0∧X=ap H [.row 0 2 [.d (Cv b)]]∧e.get 1= .ptr (Bc H) 0 0 0) (fun _ o e X=>o= .ret∧Ck X (Bc H)=H∧e.get 2= .d (.bool false))
  (by
   rintro s e X ⟨rfl,g1,g3⟩
   simp[R7,-List.getD_eq_getElem?_getD,-List.map_map,Nr,g1,g3])
  (by
   rintro i s e X hi ⟨rfl,g1,g3⟩
   have c: (i:Int)< (b.ents.length:Int):=by have:=hi;omega
   have g:=F4 b.ents i hi
   have p:=Bb (cl:=ev R) fun H=>Buv H (b.ents.getD i default) (hf.each _ (Fz hi))
   have w1:IntKind.i64.wrap ((i:Int)+1)=((i+1:Nat):Int):=by rw[IntWalk.i64_in _ (by have:=hf.len;omega)];rfl
   refine Bdv b i ?_ ?_ ?_ ?_
   ·intro h1 hb
    rw[hb]
    rw[h1] at p
    simp[R7,-List.getD_eq_getElem?_getD,-List.map_map,Nr,g1,g3,c,hi,g,p]
   ·intro h1 h2 h3 hb
    rw[hb]
    rw[h1] at p
    simp[R7,-List.getD_eq_getElem?_getD,-List.map_map,Nr,g1,g3,c,hi,g,p,h2,h3]
   ·intro h1 h2 h4 hb
    rw[hb]
    rw[h1] at p
    have c4: ¬ (0:Int)< (i:Int):=by omega
    have c5: ¬0<i:=by omega
    have c6:=eq_true h4
    rcases h2 with h2| ⟨h2,h3⟩
    ·have h2:=eq_true h2
     simp[R7,-List.getD_eq_getElem?_getD,-List.map_map,Nr,g1,g3,c,c4,c5,c6,hi,g,p,h2,w1]
    ·simp[R7,-List.getD_eq_getElem?_getD,-List.map_map,Nr,g1,g3,c,c4,c5,c6,hi,g,p,h2,h3,w1]
   ·rintro h1 h2 h4 ⟨x,hx,hb⟩
    rw[hb]
    rw[h1] at p
    have w2:IntKind.i64.wrap ((i:Int) - 1)=((i - 1:Nat):Int):=by rw[IntWalk.i64_in _ (by have:=hf.len;omega)];omega
    have gp:=F4 b.ents (i - 1) (by omega)
    have c3:i - 1<b.ents.length:=by omega
    have c4: (0:Int)< (i:Int):=by omega
    have c7: ¬i=0:=by omega
    cases x<;>rcases h2 with h2| ⟨h2,h3⟩
    ·have h2:=eq_true h2
     simp[R7,-List.getD_eq_getElem?_getD,-List.map_map,Nr,g1,g3,c,c3,c4,c7,h4,hi,g,gp,p,h2,w2,hx]
    ·simp[R7,-List.getD_eq_getElem?_getD,-List.map_map,Nr,g1,g3,c,c3,c4,c7,h4,hi,g,gp,p,h2,h3,w2,hx]
    ·have h2:=eq_true h2
     simp[R7,-List.getD_eq_getElem?_getD,-List.map_map,Nr,g1,g3,c,c3,c4,c7,h4,hi,g,gp,p,h2,w1,w2,hx]
    ·simp[R7,-List.getD_eq_getElem?_getD,-List.map_map,Nr,g1,g3,c,c3,c4,h4,hi,g,gp,p,h2,h3,w1,w2,hx])
  b.ents.length 0 () [(1, .ptr (Bc H) 0 0 0),(3, .d (.int .i64 0))] (ap H [.row 0 2 [.d (Cv b)]]) (by omega) ⟨rfl,rfl,rfl⟩
 rw[W5] at key
 obtain⟨o,e',X',he,hq⟩:=key.out
 have p1:=Ll b.now 0 1000000
 unfold F3
 by_cases h:De (Ln b) b.ents.length 0=true
 ·rw[if_pos h] at hq
  obtain⟨rfl,tk,g2⟩:=hq
  simp[R7,-List.getD_eq_getElem?_getD,-List.map_map,f11,he,tk,g2,h]
 ·rw[if_neg h] at hq
  obtain⟨rfl,rfl,g1⟩:=hq
  obtain⟨x,hx⟩: ∃x,(decide (b.now≥0) &&decide (b.now≤1000000))=x:=⟨_,rfl⟩
  rw[hx] at p1
  have hx': (decide (0≤b.now) &&decide (b.now≤1000000))=x:=hx
  rw[hx']
  cases x
  ·simp[R7,-List.getD_eq_getElem?_getD,-List.map_map,f11,he,g1,h,p1]
  ·by_cases n2:b.ents.length≤12
   ·have n3: (b.ents.length:Int)≤12:=by omega
    simp[R7,-List.getD_eq_getElem?_getD,-List.map_map,f11,he,g1,h,p1,n2,n3]
   ·have n3: ¬ (b.ents.length:Int)≤12:=by omega
    simp[R7,-List.getD_eq_getElem?_getD,-List.map_map,f11,he,g1,h,p1,n2,n3]
theorem Bma (b:Ba) (hf:BaFit b):Be (ev R) 18 [.d (Cv b)]=some (.d (.bool (F3 b))):=Bb fun H=>by
 refine Bi (fn:=f18) rfl rfl ?_
 have key:=Wc (F:=Bo (ev R) R.glob (Bc H) Bg Nt) (lv:=[1,16,17,18]) (fun i (_:Unit)=>if Ln b i=true then(.inr ():Unit ⊕ Unit) else .inl ()) b.ents.length
  (fun i _ e X=>X=ap H [.row 0 2 [.d (Cv b)]]∧e.get 1= .ptr (Bc H) 0 0 0∧e.get 16= .d (Kr b.ents)∧e.get 17= .d (.int .i64 b.ents.length)∧e.get 18= .d (.int .i64 i))
  (fun _ o e X=>o= .exit 0∧X=ap H [.row 0 2 [.d (Cv b)]]) (fun _ o e X=>o= .ret∧Ck X (Bc H)=H∧e.get 2= .d (.bool false))
  (by
   rintro s e X ⟨rfl,g1,g16,g17,g18⟩
   simp[R7,-List.getD_eq_getElem?_getD,-List.map_map,Nt,g1,g16,g17,g18])
  (by
   rintro i s e X hi ⟨rfl,g1,g16,g17,g18⟩
   have c: (i:Int)< (b.ents.length:Int):=by have:=hi;omega
   have g:=F4 b.ents i hi
   have p:=Bb (cl:=ev R) fun H=>Byu H (b.ents.getD i default) (hf.each _ (Fz hi))
   have w1:IntKind.i64.wrap ((i:Int)+1)=((i+1:Nat):Int):=by rw[IntWalk.i64_in _ (by have:=hf.len;omega)];rfl
   have w2:0<i→IntKind.i64.wrap ((i:Int) - 1)=((i - 1:Nat):Int):=fun h4=>by rw[IntWalk.i64_in _ (by have:=hf.len;omega)];omega
   have gp:=fun h:0<i=>F4 b.ents (i - 1) (by omega)
   unfold Ln
   by_cases h1:Fc (b.ents.getD i default)=true
   ·rw[h1] at p
    by_cases h4:0<i
    ·have w2:=w2 h4
     have gp:=gp h4
     have c3:i - 1<b.ents.length:=by omega
     have c4: (0:Int)< (i:Int):=by omega
     have c7: ¬i=0:=by omega
     generalize b.ents.getD i default=E at*
     generalize b.ents.getD (i - 1) default=E0 at*
     unfold R1
     rw[h1]
     obtain⟨x,hx⟩: ∃x,Op.bytesLess E0.key E.key=x:=⟨_,rfl⟩
     cases x
     ·simp[R7,-List.getD_eq_getElem?_getD,-List.map_map,Nt,g1,g16,g17,g18,c,c3,c4,c7,h4,hi,g,gp,p,w2,hx]
     ·by_cases h2:E.till=0
      ·have h2:=eq_true h2
       simp[R7,-List.getD_eq_getElem?_getD,-List.map_map,Nt,g1,g16,g17,g18,c,c3,c4,c7,h4,hi,g,gp,p,h2,w1,w2,hx]
      ·by_cases h3:E.till≤b.now
       ·simp[R7,-List.getD_eq_getElem?_getD,-List.map_map,Nt,g1,g16,g17,g18,c,c3,c4,c7,h4,hi,g,gp,p,h2,h3,w1,w2,hx]
       ·simp[R7,-List.getD_eq_getElem?_getD,-List.map_map,Nt,g1,g16,g17,g18,c,c3,c4,c7,h4,hi,g,gp,p,h2,h3,w1,w2,hx]
    ·have c4: ¬ (0:Int)< (i:Int):=by omega
     have c6: (i=0)=True:=eq_true (by omega)
     generalize b.ents.getD i default=E at*
     generalize b.ents.getD (i - 1) default=E0 at*
     unfold R1
     rw[h1]
     by_cases h2:E.till=0
     ·have h2:=eq_true h2
      simp[R7,-List.getD_eq_getElem?_getD,-List.map_map,Nt,g1,g16,g17,g18,c,c4,c6,h4,hi,g,p,h2,w1]
     ·by_cases h3:E.till≤b.now
      ·simp[R7,-List.getD_eq_getElem?_getD,-List.map_map,Nt,g1,g16,g17,g18,c,c4,c6,h4,hi,g,p,h2,h3,w1]
      ·simp[R7,-List.getD_eq_getElem?_getD,-List.map_map,Nt,g1,g16,g17,g18,c,c4,c6,h4,hi,g,p,h2,h3,w1]
   ·rw[Bool.not_eq_true] at h1
    rw[h1] at p
    generalize b.ents.getD i default=E at*
    unfold R1
    rw[h1]
    simp[R7,-List.getD_eq_getElem?_getD,-List.map_map,Nt,g1,g16,g17,g18,c,hi,g,p])
  b.ents.length 0 () [(1, .ptr (Bc H) 0 0 0),(16, .d (Kr b.ents)),(17, .d (.int .i64 b.ents.length)),(18, .d (.int .i64 0))] (ap H [.row 0 2 [.d (Cv b)]]) (by omega) ⟨rfl,rfl,rfl,rfl,rfl⟩
 rw[W5] at key
 obtain⟨o,e',X',he,hq⟩:=key.out
 have p1:=Xp b.now 0 1000000
 unfold F3
 obtain⟨x,hx⟩: ∃x,(decide (b.now≥0) &&decide (b.now≤1000000))=x:=⟨_,rfl⟩
 rw[hx] at p1
 have hx': (decide (0≤b.now) &&decide (b.now≤1000000))=x:=hx
 rw[hx']
 cases x
 ·simp[R7,-List.getD_eq_getElem?_getD,-List.map_map,f18,p1]
 ·by_cases n2:b.ents.length≤12
  ·have n3: ¬ (12:Int)< (b.ents.length:Int):=by omega
   have n4: ¬12<b.ents.length:=by omega
   by_cases h:De (Ln b) b.ents.length 0=true
   ·rw[if_pos h] at hq
    obtain⟨rfl,tk,g2⟩:=hq
    simp[R7,-List.getD_eq_getElem?_getD,-List.map_map,f18,p1,n2,n3,n4,he,tk,g2,h]
   ·rw[if_neg h] at hq
    obtain⟨rfl,rfl⟩:=hq
    simp[R7,-List.getD_eq_getElem?_getD,-List.map_map,f18,p1,n2,n3,n4,he,h]
  ·have n3: (12:Int)< (b.ents.length:Int):=by omega
   have n4:12<b.ents.length:=by omega
   simp[R7,-List.getD_eq_getElem?_getD,-List.map_map,f18,p1,n2,n3,n4]
def N8 (now:Int) (e:En):Bool:=decide (e.till=0) ||decide (now<e.till)
def Bck (b:Ba) (n:Int):Ba:=⟨b.now+n,b.ents.filter (N8 (b.now+n))⟩
def Rv (b:Ba) (n:Int):Ba:=if F3 b=true then(if 0≤n∧n≤1000000 - b.now then Bck b n else b) else⟨0,[]⟩
theorem B08 (b:Ba) (n:Int) (hb:BaSm b) (h1: -1000000000≤b.now∧b.now≤1000000000) (h2: -1000000000≤n∧n≤1000000000):Be (ev R) 37 [.d (Cv b), .d (.int .i64 n)]=some (.d (Cv (Bck b n))):=Bb fun H=>by
 refine Bi (fn:=f37) rfl rfl ?_
 have hbl:=hb.len
 unfold Bck
 obtain⟨N,hN⟩: ∃N,b.now+n=N:=⟨_,rfl⟩
 have w:IntKind.i64.wrap (b.now+n)=N:=by rw[IntWalk.i64_in _ (by omega),hN]
 rw[hN]
 obtain⟨o,e',X',he,rfl,rfl,g4,g5⟩:=(Cl (F:=Bo (ev R) R.glob (Bc H) Bg P0) (lv:=[2,4,5,6]) b.ents.length
  (fun i e X=>X=ap H (Tw b N ((b.ents.take i).filter (N8 N)) H)∧e.get 2= .ptr (Bc H) 0 0 0∧e.get 4= .ptr (Bc H+1) 0 0 0∧e.get 5= .ptr (Bc H+2) 0 0 0∧e.get 6= .d (.int .i64 i))
  (fun o e X=>o= .exit 0∧X=ap H (Tw b N (b.ents.filter (N8 N)) H)∧e.get 4= .ptr (Bc H+1) 0 0 0∧e.get 5= .ptr (Bc H+2) 0 0 0)
  (by
   rintro e X ⟨rfl,g2,g4,g5,g6⟩
   rw[List.take_length]
   cases hz:b.ents.filter (N8 N) with
   |nil=>simp(maxSteps:=1000000) [Ca,-List.getD_eq_getElem?_getD,-List.map_map,P0,g2,g4,g5,g6,Tw]
   |cons z r=>simp(maxSteps:=1000000) [Ca,-List.getD_eq_getElem?_getD,-List.map_map,P0,g2,g4,g5,g6,Tw])
  (by
   rintro i e X hi ⟨rfl,g2,g4,g5,g6⟩
   have c: (i:Int)< (b.ents.length:Int):=by omega
   have c0: (0:Int)≤(i:Int):=by omega
   have g:=F4 b.ents i hi
   have p:=Bqb (b.ents.getD i default) (hb.each _ (Fz hi))
   have w1:IntKind.i64.wrap ((i:Int)+1)=(i:Int)+1:=IntWalk.i64_in _ (by omega)
   rw[Lj _ b.ents i default hi]
   have hl:=Ph (N8 N) b.ents i hi
   have hs:N8 N (b.ents.getD i default)=(decide ((b.ents.getD i default).till=0) ||decide (N< (b.ents.getD i default).till)):=rfl
   generalize b.ents.getD i default=x at*
   generalize(b.ents.take i).filter (N8 N)=zs at*
   by_cases k:x.till=0
   ·have hs:N8 N x=true:=by rw[hs];simp[k]
    rw[hs]
    simp only[if_true]
    cases zs with
    |nil=>simp(maxSteps:=1000000) [Ca,-List.getD_eq_getElem?_getD,-List.map_map,P0,g2,g4,g5,g6,c,c0,hi,g,p,w1,Tw,Cb,eq_true k]
    |cons z r=>
     have rm: (r.length+1+1)*120≤Cb:=by simp only[List.length_cons] at hl;unfold Cb;omega
     simp(maxSteps:=1000000) [Ca,-List.getD_eq_getElem?_getD,-List.map_map,P0,g2,g4,g5,g6,c,c0,hi,g,p,w1,Tw,rm,eq_true k]
   ·by_cases j:N<x.till
    ·have hs:N8 N x=true:=by rw[hs];simp[j]
     rw[hs]
     simp only[if_true]
     cases zs with
     |nil=>simp(maxSteps:=1000000) [Ca,-List.getD_eq_getElem?_getD,-List.map_map,P0,g2,g4,g5,g6,c,c0,hi,g,p,w1,Tw,Cb,eq_false k,eq_true j]
     |cons z r=>
      have rm: (r.length+1+1)*120≤Cb:=by simp only[List.length_cons] at hl;unfold Cb;omega
      simp(maxSteps:=1000000) [Ca,-List.getD_eq_getElem?_getD,-List.map_map,P0,g2,g4,g5,g6,c,c0,hi,g,p,w1,Tw,rm,eq_false k,eq_true j]
    ·have hs:N8 N x=false:=by rw[hs];simp[k,j]
     rw[hs]
     simp only[Bool.false_eq_true,if_false,List.append_nil]
     cases zs with
     |nil=>simp(maxSteps:=1000000) [Ca,-List.getD_eq_getElem?_getD,-List.map_map,P0,g2,g4,g5,g6,c,c0,hi,g,w1,Tw,eq_false k,eq_false j]
     |cons z r=>simp(maxSteps:=1000000) [Ca,-List.getD_eq_getElem?_getD,-List.map_map,P0,g2,g4,g5,g6,c,c0,hi,g,w1,Tw,eq_false k,eq_false j])
  b.ents.length 0 [(2, .ptr (Bc H) 0 0 0),(4, .ptr (Bc H+1) 0 0 0),(5, .ptr (Bc H+2) 0 0 0),(6, .d (.int .i64 0))] (ap H (Tw b N [] H)) (by omega) ⟨rfl,rfl,rfl,rfl,rfl⟩).out
 cases hz:b.ents.filter (N8 N) with
 |nil=>
  rw[hz] at he
  simp only[Tw] at he
  simp(maxSteps:=1000000) [Ca,-List.getD_eq_getElem?_getD,-List.map_map,f37,w,he,g4,g5,Dr,hz,Tw]
 |cons z r=>
  rw[hz] at he
  simp only[Tw] at he
  simp(maxSteps:=1000000) [Ca,-List.getD_eq_getElem?_getD,-List.map_map,f37,w,he,g4,g5,hz,Tw]
  rfl
theorem Bqg {b:Ba} (h:BaG b) {n:Int} (h2:0≤b.now+n∧b.now+n≤2000000):BaG (Bck b n):=
 ⟨Nat.le_trans (List.length_filter_le _ _) h.len,fun e he=>h.each e (List.mem_filter.1 he).1,h2⟩
theorem T8 {b:Ba} (h:BaG b) (n:Int):BaG (Rv b n):=by
 unfold Rv
 split
 ·split
  ·exact Bqg h (by have:=h.now;omega)
  ·exact h
 ·exact⟨by simp,by simp,by simp⟩
theorem B01 (b:Ba) (n:Int) (hb:BaSm b) (hf:BaFit b) (h1: -1000000000≤b.now∧b.now≤1000000000) (h2: -1000000000≤n∧n≤1000000000):Be (ev R) 16 [.d (Cv b), .d (.int .i64 n)]=some (.d (Cv (Rv b n))):=Bb fun H=>by
 refine Bi (fn:=f16) rfl rfl ?_
 have p0:=Bih b hb.len hb.each
 have z0:=Brx b
 have t0:=Bq2 b
 have p1:=Bl6 b hf
 have p2:=Ll n 0 (1000000 - b.now)
 have p3:=B08 b n hb h1 h2
 have w:IntKind.i64.wrap (1000000 - b.now)=1000000 - b.now:=IntWalk.i64_in _ (by omega)
 unfold Rv
 generalize Bck b n=T at*
 cases hk:F3 b with
 |false=>rw[hk] at p1;simp(maxSteps:=1000000) [Ca,-List.getD_eq_getElem?_getD,-List.map_map,f16,p1,Dr]
 |true=>
  rw[hk] at p1
  by_cases a:0≤n
  ·by_cases c:n≤1000000 - b.now
   ·simp(maxSteps:=1000000) [Ca,-List.getD_eq_getElem?_getD,-List.map_map,f16,p0, ↓z0, ↓t0,p1,p2,p3,w,eq_true a,eq_true c]
   ·simp(maxSteps:=1000000) [Ca,-List.getD_eq_getElem?_getD,-List.map_map,f16,p0, ↓z0, ↓t0,p1,p2,p3,w,eq_true a,eq_false c]
  ·simp(maxSteps:=1000000) [Ca,-List.getD_eq_getElem?_getD,-List.map_map,f16,p0, ↓z0, ↓t0,p1,p2,p3,w,eq_false a]
theorem T0: ∀ (x y:Bm),Op.bytesLess x y=decide (x<y)
 | [],[]=>by decide
 | [],_::_=>by simp[Op.bytesLess]
 |_::_,[]=>by simp[Op.bytesLess]
 |a::x,c::y=>by
  simp only[Op.bytesLess,T0 x y,List.cons_lt_cons_iff]
  by_cases h1:a<c
  ·simp[h1]
  ·by_cases h2:a=c
   ·subst h2;simp
   ·simp[h1,h2]
theorem Ld {x y z:Bm} (h1:Op.bytesLess x y=true) (h2:Op.bytesLess y z=true):Op.bytesLess x z=true:=by
 rw[T0,decide_eq_true_eq] at*
 exact List.lt_trans h1 h2
theorem F5 (x:Bm):Op.bytesLess x x=false:=by
 rw[T0,decide_eq_false_iff_not]
 exact List.lt_irrefl x
theorem Wa {x y:Bm} (h1:Op.bytesLess x y=false) (h2: ¬x=y):Op.bytesLess y x=true:=by
 rw[T0] at*
 rw[decide_eq_false_iff_not] at h1
 rw[decide_eq_true_eq]
 have h3:=List.not_lt.1 h1
 rcases List.le_iff_lt_or_eq.1 h3 with h|h
 ·exact h
 ·exact absurd h.symm h2
def Br2 (now:Int) (e:En):Prop:=e.till=0∨now<e.till
structure BaO (b:Ba):Prop where
 now:0≤b.now∧b.now≤1000000
 len:b.ents.length≤12
 each: ∀e∈b.ents,Fc e=true∧Br2 b.now e
 asc:b.ents.Pairwise fun a c=>Op.bytesLess a.key c.key=true
theorem Ug: ∀ (es:List En),(∀i,0<i→i<es.length→Op.bytesLess (es.getD (i - 1) default).key (es.getD i default).key=true)→es.Pairwise fun a c=>Op.bytesLess a.key c.key=true
 | [],_=>List.Pairwise.nil
 | [x],_=>List.pairwise_singleton _ _
 |x::y::r,h=>by
  have ih:=Ug (y::r) fun i h1 h2=>by
   have:=h (i+1) (by omega) (by simp only[List.length_cons] at h2⊢;omega)
   have e1: (x::y::r).getD (i+1 - 1) default=(y::r).getD (i - 1) default:=by
    obtain⟨j,rfl⟩: ∃j,i=j+1:=⟨i - 1,by omega⟩
    rfl
   rw[e1] at this
   exact this
  have hxy:Op.bytesLess x.key y.key=true:=h 1 (by omega) (by simp)
  refine List.Pairwise.cons (fun z hz=> ?_) ih
  rcases List.mem_cons.1 hz with rfl|hz
  ·exact hxy
  ·exact Ld hxy (List.rel_of_pairwise_cons ih hz)
theorem Bff {es:List En} (h:es.Pairwise fun a c=>Op.bytesLess a.key c.key=true) (i:Nat) (h0:0<i) (hi:i<es.length):Op.bytesLess (es.getD (i - 1) default).key (es.getD i default).key=true:=by
 have:=(List.pairwise_iff_getElem.1 h) (i - 1) i (by omega) hi (by omega)
 simpa[List.getD_eq_getElem?_getD,List.getElem?_eq_getElem hi,List.getElem?_eq_getElem (show i - 1<es.length by omega)] using this
theorem Jj (b:Ba):F3 b=true↔BaO b:=by
 unfold F3
 simp only[Bool.and_eq_true,Bool.not_eq_true',decide_eq_true_eq]
 constructor
 ·rintro⟨h1,⟨h2,h3⟩,h4⟩
  have hb:=fun i (hi:i<b.ents.length)=>Me h1 i (Nat.zero_le i) (by omega)
  refine⟨⟨h2,h3⟩,h4,Ky default fun i hi=> ?_,Ug _ fun i h0 hi=> ?_⟩
  ·have:=hb i hi
   unfold Ln R1 at this
   simp only[Bool.or_eq_false_iff,Bool.not_eq_false',Bool.and_eq_false_iff,decide_eq_false_iff_not] at this
   refine⟨this.1.1, ?_⟩
   unfold Br2
   rcases this.1.2 with h|h
   ·exact .inl (Decidable.not_not.1 h)
   ·exact .inr (by omega)
  ·have:=hb i hi
   unfold Ln R1 at this
   simp only[Bool.or_eq_false_iff,Bool.not_eq_false',Bool.and_eq_false_iff,decide_eq_false_iff_not] at this
   rcases this.2 with h|h
   ·omega
   ·exact h
 ·intro h
  refine⟨Bgm fun i _ hi=> ?_,h.now,h.len⟩
  have hi:i<b.ents.length:=by omega
  have he:=h.each _ (Fz hi:b.ents.getD i default∈b.ents)
  unfold Ln R1
  rw[he.1]
  have h2: (decide ((b.ents.getD i default).till≠0) &&decide ((b.ents.getD i default).till≤b.now))=false:=by
   rw[Bool.and_eq_false_iff,decide_eq_false_iff_not,decide_eq_false_iff_not]
   rcases he.2 with h|h
   ·exact .inl (fun hn=>hn h)
   ·exact .inr (by omega)
  rw[h2]
  by_cases h0:0<i
  ·rw[Bff h.asc i h0 hi];simp
  ·simp[h0]
theorem BaO.g {b:Ba} (h:BaO b):BaG b:=⟨h.len,fun e he=> (h.each e he).1,by have:=h.now;omega⟩
theorem Buy (H:Hp) (xs:List Bm) (hx:xs.length≤1000000):ev R 60 [.d (Bf xs)] H=some (.slc (Bc H) 0 0 xs.length,ap H [.row 0 1 ((xs.map D.str).map V.d)]):=by
 refine Bi (fn:=f60) rfl rfl ?_
 have r:xs.length*16≤Cb:=by unfold Cb;omega
 simp[B4,-List.getD_eq_getElem?_getD,-List.map_map,f60,Bf,r,Un]
theorem B1a (xs:List Bm) (hx:xs.length≤1000000):Fe (ev R) 60 [.d (Bf xs)]=some (.d (Bf xs)):=by
 refine G9 fun H=> ⟨_,_,Buy H xs hx, ?_,Lm H _⟩
 simp[B4,-List.getD_eq_getElem?_getD,-List.map_map,Bf]
theorem Bxx (xs:List Bm) (hx:xs.length≤1000000):Be (ev R) 60 [.d (Bf xs)]=none:=by
 cases h:Be (ev R) 60 [.d (Bf xs)] with
 |none=>rfl
 |some v=>
  have h1:=Db h []
  rw[Buy [] xs hx] at h1
  simp[ap] at h1
theorem Buz (H:Hp) (xs:List Sc) (hx:xs.length≤1000000):ev R 61 [.d (Cs xs)] H=some (.slc (Bc H) 0 0 xs.length,ap H [.row 0 2 ((xs.map G1).map V.d)]):=by
 refine Bi (fn:=f61) rfl rfl ?_
 have r:xs.length*24≤Cb:=by unfold Cb;omega
 simp[B4,-List.getD_eq_getElem?_getD,-List.map_map,f61,r,Un]
theorem B1b (xs:List Sc) (hx:xs.length≤1000000):Fe (ev R) 61 [.d (Cs xs)]=some (.d (Cs xs)):=by
 refine G9 fun H=> ⟨_,_,Buz H xs hx, ?_,Lm H _⟩
 simp[B4,-List.getD_eq_getElem?_getD,-List.map_map]
theorem Bxy (xs:List Sc) (hx:xs.length≤1000000):Be (ev R) 61 [.d (Cs xs)]=none:=by
 cases h:Be (ev R) 61 [.d (Cs xs)] with
 |none=>rfl
 |some v=>
  have h1:=Db h []
  rw[Buz [] xs hx] at h1
  simp[ap] at h1
theorem Bu0 (H:Hp) (xs:List Pr) (hx:xs.length≤1000000):ev R 62 [.d (Dp xs)] H=some (.slc (Bc H) 0 0 xs.length,ap H [.row 0 2 ((xs.map Jh).map V.d)]):=by
 refine Bi (fn:=f62) rfl rfl ?_
 have r:xs.length*32≤Cb:=by unfold Cb;omega
 simp[B4,-List.getD_eq_getElem?_getD,-List.map_map,f62,r,Un]
theorem B1c (xs:List Pr) (hx:xs.length≤1000000):Fe (ev R) 62 [.d (Dp xs)]=some (.d (Dp xs)):=by
 refine G9 fun H=> ⟨_,_,Bu0 H xs hx, ?_,Lm H _⟩
 simp[B4,-List.getD_eq_getElem?_getD,-List.map_map]
theorem Bxz (xs:List Pr) (hx:xs.length≤1000000):Be (ev R) 62 [.d (Dp xs)]=none:=by
 cases h:Be (ev R) 62 [.d (Dp xs)] with
 |none=>rfl
 |some v=>
  have h1:=Db h []
  rw[Bu0 [] xs hx] at h1
  simp[ap] at h1
theorem Bp9 (e:En) (h:EnSm e):Be (ev R) 35 [.d (Dw e)]=some (.d (Dw e)):=Bb fun H=>by
 refine Bi (fn:=f35) rfl rfl ?_
 obtain⟨key,till,kind,text,list,scores,fields⟩:=e
 obtain⟨h1,h2,h3⟩:=h
 dsimp only at h1 h2 h3
 have a1:=B1a list h1
 have a2:=Bxx list h1
 have b1:=B1b scores h2
 have b2:=Bxy scores h2
 have c1:=B1c fields h3
 have c2:=Bxz fields h3
 simp[B4,-List.getD_eq_getElem?_getD,-List.map_map,f35,a1,a2,b1,b2,c1,c2,Bf]
def cbH (b:Ba) (n:Int) (zs:List En) (H:Hp):Hp:=
 [.row 0 2 [.d (Cv b)], .row 0 2 [.agg [.d (.int .i64 0), .nils 7]], .row zs.length 7 ((zs.map Dw).map V.d), .row 0 2 [.agg [.d (.int .i64 n), .slc (Bc H+2) zs.length 0 zs.length]]]
theorem Bpr (b:Ba) (hb:b.ents.length≤1000000) (h: ∀e∈b.ents,EnSm e) (H:Hp):ev R 34 [.d (Cv b)] H=some (.agg [.d (.int .i64 b.now), .slc (Bc H) 0 0 b.ents.length],ap H [.row 0 7 ((b.ents.map Dw).map V.d)]):=by
 refine Bi (fn:=f34) rfl rfl ?_
 obtain⟨o,e',X',he,rfl,rfl,g2,g3⟩:=(Cl (F:=Bo (ev R) R.glob (Bc H) Bg U0) (lv:=[2,3,11,12,13]) b.ents.length
  (fun i e X=>X=ap H (cbH b b.now (b.ents.take i) H)∧e.get 2= .ptr (Bc H+1) 0 0 0∧e.get 3= .ptr (Bc H+3) 0 0 0∧e.get 11= .d (Kr b.ents)∧e.get 12= .d (.int .i64 b.ents.length)∧e.get 13= .d (.int .i64 i))
  (fun o e X=>o= .exit 0∧X=ap H (cbH b b.now b.ents H)∧e.get 2= .ptr (Bc H+1) 0 0 0∧e.get 3= .ptr (Bc H+3) 0 0 0)
  (by
   rintro e X ⟨rfl,g2,g3,g11,g12,g13⟩
   rw[List.take_length]
   simp(maxSteps:=1000000) [Ca,-List.getD_eq_getElem?_getD,-List.map_map,U0,g2,g3,g11,g12,g13,cbH])
  (by
   rintro i e X hi ⟨rfl,g2,g3,g11,g12,g13⟩
   have c: (i:Int)< (b.ents.length:Int):=by omega
   have c0: (0:Int)≤(i:Int):=by omega
   have g:=F4 b.ents i hi
   have p:=Bp9 (b.ents.getD i default) (h _ (Fz hi))
   have w1:IntKind.i64.wrap ((i:Int)+1)=(i:Int)+1:=IntWalk.i64_in _ (by omega)
   have hs:=Gb b.ents i default hi
   have hl: (b.ents.take i).length=i:=by rw[List.length_take];omega
   have hl2: (b.ents.take (i+1)).length=i+1:=by rw[List.length_take];omega
   have sf:List.map V.d (List.map Dw (b.ents.take i))++[V.d (Dw (b.ents.getD i default))]=List.map V.d (List.map Dw (b.ents.take (i+1))):=by rw[hs];simp
   clear hs
   generalize b.ents.getD i default=x at*
   generalize b.ents.take i=zs at*
   generalize b.ents.take (i+1)=ys at*
   have rm: (i+1)*120≤Cb:=by unfold Cb;omega
   simp(maxSteps:=1000000) [Ca,-List.getD_eq_getElem?_getD,-List.map_map,U0,g2,g3,g11,g12,g13,c,c0,hi,g,p,w1,cbH,rm,hl,hl2,sf])
  b.ents.length 0 [(2, .ptr (Bc H+1) 0 0 0),(3, .ptr (Bc H+3) 0 0 0),(11, .d (Kr b.ents)),(12, .d (.int .i64 b.ents.length)),(13, .d (.int .i64 0))] (ap H (cbH b b.now [] H)) (by omega) ⟨rfl,rfl,rfl,rfl,rfl,rfl⟩).out
 simp only[cbH,List.map_nil,List.length_nil] at he
 simp(maxSteps:=1000000) [Ca,-List.getD_eq_getElem?_getD,-List.map_map,f34,he,g2,g3,Un]
theorem B07 (b:Ba) (hb:BaSm b):Fe (ev R) 34 [.d (Cv b)]=some (.d (Cv b)):=by
 refine G9 fun H=> ⟨_,_,Bpr b hb.len hb.each H, ?_,Lm H _⟩
 simp[B4,-List.getD_eq_getElem?_getD,-List.map_map]
theorem Bxv (b:Ba) (hb:BaSm b):Be (ev R) 34 [.d (Cv b)]=none:=by
 cases h:Be (ev R) 34 [.d (Cv b)] with
 |none=>rfl
 |some v=>
  have h1:=Db h []
  rw[Bpr b hb.len hb.each []] at h1
  simp[ap] at h1
def Q4 (p:Bm) (es:List En):List Bm:=(es.filter fun e=>Gx p e.key).map (·.key)
def Bc6 (b:Ba) (p:Bm):List Bm:=if F3 b=true∧p.length≤12 then Q4 p b.ents else[]
theorem Bef (p:Bm) (es:List En) (i:Nat) (hi:i<es.length):Q4 p (es.take (i+1))=Q4 p (es.take i)++(if Gx p (es.getD i default).key=true then[(es.getD i default).key] else[]):=by
 unfold Q4
 rw[Lj _ es i default hi,List.map_append]
 cases Gx p (es.getD i default).key<;>rfl
theorem Bil (p:Bm) (es:List En): (Q4 p es).length≤es.length:=by
 unfold Q4
 rw[List.length_map]
 exact List.length_filter_le _ _
theorem B00 (b:Ba) (p:Bm) (hb:BaSm b) (hf:BaFit b) (hp:p.length≤1000000):Be (ev R) 10 [.d (Cv b), .d (.str p)]=some (.d (Bf (Bc6 b p))):=Bb fun H=>by
 refine Bi (fn:=f10) rfl rfl ?_
 have p1:=Bl6 b hf
 unfold Bc6
 have hbl:=hb.len
 by_cases hg:F3 b=true∧p.length≤12
 ·rw[if_pos hg]
  rw[hg.1] at p1
  have hg2: (p.length:Int)≤12:=by have:=hg.2;omega
  have hem: ∀e∈b.ents,Fc e=true:=by
   have h:=hg.1
   unfold F3 at h
   simp only[Bool.and_eq_true,Bool.not_eq_true'] at h
   refine Ky default fun i hi=> ?_
   have:=Me h.1 i (by omega) (by omega)
   unfold Ln R1 at this
   simp only[Bool.or_eq_false_iff,Bool.not_eq_false'] at this
   exact this.1.1
  have lp:=(Cl (F:=Bo (ev R) R.glob (Bc H) Bg Nq) (lv:=[1,2,5,6]) b.ents.length
   (fun i e X=> ∃zs:List Bm,zs=Q4 p (b.ents.take i)∧X=ap H [.row 0 2 [.d (Cv b)], .row zs.length 1 ((zs.map D.str).map V.d)]∧e.get 1= .d (.str p)∧e.get 2= .ptr (Bc H) 0 0 0∧e.get 5= .slc (Bc H+1) zs.length 0 zs.length∧e.get 6= .d (.int .i64 i))
   (fun o e X=> ∃zs:List Bm,zs=Q4 p b.ents∧o= .exit 0∧X=ap H [.row 0 2 [.d (Cv b)], .row zs.length 1 ((zs.map D.str).map V.d)]∧e.get 5= .slc (Bc H+1) zs.length 0 zs.length)
   (by
    rintro e X ⟨zs,hz,rfl,g1,g2,g5,g6⟩
    rw[List.take_length] at hz
    have key:Bo (ev R) R.glob (Bc H) Bg Nq ⟨e.keep [1,2,5,6],ap H [.row 0 2 [.d (Cv b)], .row zs.length 1 ((zs.map D.str).map V.d)]⟩=some (.exit 0,⟨[(1, .d (.str p)),(2, .ptr (Bc H) 0 0 0),(5, .slc (Bc H+1) zs.length 0 zs.length),(6, .d (.int .i64 b.ents.length)),(21, .d (.bool false))],ap H [.row 0 2 [.d (Cv b)], .row zs.length 1 ((zs.map D.str).map V.d)]⟩):=by
     simp(maxSteps:=1000000) [Ca,-List.getD_eq_getElem?_getD,-List.map_map,Nq,g1,g2,g5,g6]
    rw[key]
    exact⟨by simp,zs,hz,rfl,rfl,rfl⟩)
   (by
    rintro i e X hi ⟨zs,hz,rfl,g1,g2,g5,g6⟩
    have c: (i:Int)< (b.ents.length:Int):=by omega
    have c0: (0:Int)≤(i:Int):=by omega
    have g:=F4 b.ents i hi
    have hn:=Bef p b.ents i hi
    have hl:zs.length≤i:=by rw[hz];exact Nat.le_trans (Bil _ _) (by rw[List.length_take];omega)
    rw[←hz] at hn
    have hk:=(Zi (hem _ (Fz hi:b.ents.getD i default∈b.ents))).key
    have p2:=B06 p (b.ents.getD i default).key hp (by omega)
    have w1:IntKind.i64.wrap ((i:Int)+1)=((i+1:Nat):Int):=by rw[IntWalk.i64_in _ (by omega)];rfl
    have r: (zs.length+1)*16≤Cb:=by unfold Cb;omega
    generalize b.ents.getD i default=E at*
    cases hm:Gx p E.key with
    |false=>
     rw[hm] at p2 hn
     simp only[Bool.false_eq_true,if_false,List.append_nil] at hn
     simp(maxSteps:=1000000) [Ca,-List.getD_eq_getElem?_getD,-List.map_map,Nq,g1,g2,g5,g6,c,c0,hi,g,p1,p2,hg2,w1,r,hn]
    |true=>
     rw[hm] at p2 hn
     simp only[if_true] at hn
     simp(maxSteps:=1000000) [Ca,-List.getD_eq_getElem?_getD,-List.map_map,Nq,g1,g2,g5,g6,c,c0,hi,g,p1,p2,hg2,w1,r,hn])
   b.ents.length 0 [(1, .d (.str p)),(2, .ptr (Bc H) 0 0 0),(5, .slc (Bc H+1) 0 0 0),(6, .d (.int .i64 0))] (ap H [.row 0 2 [.d (Cv b)], .row 0 1 []]) (by omega) ⟨[],by simp[Q4],rfl,rfl,rfl,rfl,rfl⟩).out
  obtain⟨o,e',X',he,zs,hz,rfl,rfl,g5⟩:=lp
  rw[←hz]
  have ft:List.take zs.length ((zs.map D.str).map V.d)=(zs.map D.str).map V.d:=List.take_of_length_le (by simp)
  simp(maxSteps:=1000000) [Ca,-List.getD_eq_getElem?_getD,-List.map_map,f10,he,g5,ft]
 ·rw[if_neg hg]
  have st:Bo (ev R) R.glob (Bc H) Bg Nq ⟨Env.keep [(1, .d (.str p)),(2, .ptr (Bc H) 0 0 0),(5, .slc (Bc H+1) 0 0 0),(6, .d (.int .i64 0))] [1,2,5,6],ap H [.row 0 2 [.d (Cv b)], .row 0 1 []]⟩=some (.exit 0,⟨[(1, .d (.str p)),(2, .ptr (Bc H) 0 0 0),(5, .slc (Bc H+1) 0 0 0),(6, .d (.int .i64 0)),(21, .d (.bool false))],ap H [.row 0 2 [.d (Cv b)], .row 0 1 []]⟩):=by
   by_cases h0:b.ents.length=0
   ·have h0': ¬ (0:Int)< (b.ents.length:Int):=by omega
    have h0'':b.ents=[]:=List.eq_nil_of_length_eq_zero h0
    simp(maxSteps:=1000000) [Ca,-List.getD_eq_getElem?_getD,-List.map_map,Nq,h0',h0'']
   ·have h0': (0:Int)< (b.ents.length:Int):=by omega
    have h0'':b.ents≠[]:=fun h=>h0 (by rw[h];rfl)
    have h0''':0<b.ents.length:=by omega
    cases hk:F3 b with
    |false=>rw[hk] at p1;simp(maxSteps:=1000000) [Ca,-List.getD_eq_getElem?_getD,-List.map_map,Nq,h0',h0'',h0''',p1]
    |true=>
     rw[hk] at p1
     have hp2: ¬ (p.length:Int)≤12:=fun h=>hg ⟨hk,by omega⟩
     simp(maxSteps:=1000000) [Ca,-List.getD_eq_getElem?_getD,-List.map_map,Nq,h0',h0'',h0''',p1,hp2]
  have he:=D5 (F:=Bo (ev R) R.glob (Bc H) Bg Nq) (lv:=[1,2,5,6]) (st:=⟨[(1, .d (.str p)),(2, .ptr (Bc H) 0 0 0),(5, .slc (Bc H+1) 0 0 0),(6, .d (.int .i64 0))],ap H [.row 0 2 [.d (Cv b)], .row 0 1 []]⟩) st (by simp)
  simp(maxSteps:=1000000) [Ca,-List.getD_eq_getElem?_getD,-List.map_map,f10,he]
end Go.Proofs.YtjdmiodinhlchaaGreat.Code

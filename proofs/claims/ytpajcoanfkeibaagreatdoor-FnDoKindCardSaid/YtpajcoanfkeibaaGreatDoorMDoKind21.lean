/- Lemmas (several texts in one). -/
import Derived.Test.YtpajcoanfkeibaaGreatDoorMDoKind6
import Derived.Test.YtpajcoanfkeibaaGreatDoorMDoKind8
import Derived.Test.YtpajcoanfkeibaaGreatDoorMDoKind12
import Derived.Test.YtpajcoanfkeibaaGreatDoorMDoKind15
import Derived.Test.YtpajcoanfkeibaaGreatDoorMDoKind20
set_option maxRecDepth 100000
set_option maxHeartbeats 4000000
set_option linter.unusedSimpArgs false
set_option linter.unusedVariables false
open List renaming getD_eq_getElem?_getD → Cda, map_map → Cdb, take_length → Cdm, length_cons → Cdc, getElem?_eq_getElem → Cdh, length_take → Cdn
open Bool renaming false_eq_true → Cdw, and_eq_true → Cdv, not_eq_true' → Cdy, and_eq_false_iff → Cd0
namespace Go.Proofs.YtpajcoanfkeibaaGreatDoor.Code
open Go Go.Ev Go.Proofs
def Yl (now:Int) (i:Nat) (p e:En):Bool:= !Gl e|| (decide (e.till≠0) &&decide (e.till≤now)) || (decide (0<i) && !Op.bytesLess p.key e.key)
def Pv (b:Ba) (i:Nat):Bool:=Yl b.now i (b.ents.getD (i - 1) default) (b.ents.getD i default)
def K4 (b:Ba):Bool:= !D9 (Pv b) b.ents.length 0&& (decide (0≤b.now) &&decide (b.now≤1000000) &&decide (b.ents.length≤12))
theorem Bcx (p:Nat→Bool): ∀ (n i:Nat),Bty (fun i (_:Unit)=>if p i=true then(.inr ():Unit ⊕ Unit) else .inl ()) n i ()=if D9 p n i=true then .inr () else .inl ()
 |0,i=>rfl
 |n+1,i=>by
  simp only[Bty,D9]
  by_cases h:p i=true
  ·simp[h]
  ·simp only[h,if_false,Bool.false_or]
   exact Bcx p n (i+1)
theorem Bol (now:Int) (i:Nat) (p e:En) {C:Prop} (k1:Gl e=false→Yl now i p e=true→C)
  (k2:Gl e=true→e.till≠0→e.till≤now→Yl now i p e=true→C)
  (k3:Gl e=true→(e.till=0∨(e.till≠0∧¬e.till≤now))→i=0→Yl now i p e=false→C)
  (k4:Gl e=true→(e.till=0∨(e.till≠0∧¬e.till≤now))→0<i→(∃x,Op.bytesLess p.key e.key=x∧Yl now i p e= !x)→C):C:=by
 unfold Yl at*
 by_cases h1:Gl e=true
 ·by_cases h2:e.till=0
  ·by_cases h4:i=0
   ·exact k3 h1 (.inl h2) h4 (by simp[h1,h2,h4])
   ·exact k4 h1 (.inl h2) (by omega) ⟨_,rfl,by simp[h1,h2,show 0<i by omega]⟩
  ·by_cases h3:e.till≤now
   ·exact k2 h1 h2 h3 (by simp[h1,h2,h3])
   ·by_cases h4:i=0
    ·exact k3 h1 (.inr ⟨h2,h3⟩) h4 (by simp[h1,h2,h3,h4])
    ·exact k4 h1 (.inr ⟨h2,h3⟩) (by omega) ⟨_,rfl,by simp[h1,h2,h3,show 0<i by omega]⟩
 ·exact k1 (by simpa using h1) (by simp[h1])
theorem Bkb (b:Ba) (i:Nat) {C:Prop} (k1:Gl (b.ents.getD i default)=false→Pv b i=true→C)
  (k2:Gl (b.ents.getD i default)=true→(b.ents.getD i default).till≠0→(b.ents.getD i default).till≤b.now→Pv b i=true→C)
  (k3:Gl (b.ents.getD i default)=true→((b.ents.getD i default).till=0∨((b.ents.getD i default).till≠0∧¬ (b.ents.getD i default).till≤b.now))→i=0→Pv b i=false→C)
  (k4:Gl (b.ents.getD i default)=true→((b.ents.getD i default).till=0∨((b.ents.getD i default).till≠0∧¬ (b.ents.getD i default).till≤b.now))→0<i→(∃x,Op.bytesLess (b.ents.getD (i - 1) default).key (b.ents.getD i default).key=x∧Pv b i= !x)→C):C:=
 Bol _ _ _ _ k1 k2 k3 k4
theorem B1d (b:Ba) (hf:BaFit b):Be (ev R) 14 [.d (Df b)]=some (.d (.bool (K4 b))):=Bb fun H=>by
 refine Bh (fn:=f14) rfl rfl ?_
 have bx:1≤b.ents.length→0≤b.ents.length:=fun _=>Nat.zero_le _
 have key:=Bb2 (F:=Bq (ev R) R.glob (Bc H) Bg Sq) (lv:=[1,3]) (fun i (_:Unit)=>if Pv b i=true then(.inr ():Unit ⊕ Unit) else .inl ()) b.ents.length
  (fun i _ e X=>X=ap H [.row 0 2 [.d (Df b)]]∧e.get 1= .ptr (Bc H) 0 0 0∧e.get 3= .d (.int .i64 i))
  (fun _ o e X=>o= .exit 0∧X=ap H [.row 0 2 [.d (Df b)]]∧e.get 1= .ptr (Bc H) 0 0 0) (fun _ o e X=>o= .ret∧Cx X (Bc H)=H∧e.get 2= .d (.bool false))
  (by
   rintro s e X ⟨rfl,g1,g3⟩
   simp[Yt,-Cda,-Cdb,Sq,g1,g3])
  (by
   rintro i s e X hi ⟨rfl,g1,g3⟩
   have c: (i:Int)< (b.ents.length:Int):=by have:=hi;omega
   have g:=Gt b.ents i hi
   have p:=Bb (cl:=ev R) fun H=>B3b H (b.ents.getD i default) (hf.each _ (Jc hi))
   have w1:IntKind.i64.wrap ((i:Int)+1)=((i+1:Nat):Int):=by rw[IntWalk.i64_in _ (by have:=hf.len;omega)];rfl
   refine Bkb b i ?_ ?_ ?_ ?_
   ·intro h1 hb
    rw[hb]
    rw[h1] at p
    simp[Yt,-Cda,-Cdb,Sq,g1,g3,c,hi,g,p]
   ·intro h1 h2 h3 hb
    rw[hb]
    rw[h1] at p
    simp[Yt,-Cda,-Cdb,Sq,g1,g3,c,hi,g,p,h2,h3]
   ·intro h1 h2 h4 hb
    rw[hb]
    rw[h1] at p
    have c4: ¬ (0:Int)< (i:Int):=by omega
    have c5: ¬0<i:=by omega
    have c6:=eq_true h4
    rcases h2 with h2| ⟨h2,h3⟩
    ·have h2:=eq_true h2
     simp[Yt,-Cda,-Cdb,Sq,g1,g3,c,c4,c5,c6,hi,g,p,h2,w1]
    ·simp[Yt,-Cda,-Cdb,Sq,g1,g3,c,c4,c5,c6,hi,g,p,h2,h3,w1]
   ·rintro h1 h2 h4 ⟨x,hx,hb⟩
    rw[hb]
    rw[h1] at p
    have w2:IntKind.i64.wrap ((i:Int) - 1)=((i - 1:Nat):Int):=by rw[IntWalk.i64_in _ (by have:=hf.len;omega)];omega
    have gp:=Gt b.ents (i - 1) (by omega)
    have c3:i - 1<b.ents.length:=by omega
    have c4: (0:Int)< (i:Int):=by omega
    have c7: ¬i=0:=by omega
    cases x<;>rcases h2 with h2| ⟨h2,h3⟩
    ·have h2:=eq_true h2
     simp[Yt,-Cda,-Cdb,Sq,g1,g3,c,c3,c4,c7,h4,hi,g,gp,p,h2,w2,hx]
    ·simp[Yt,-Cda,-Cdb,Sq,g1,g3,c,c3,c4,c7,h4,hi,g,gp,p,h2,h3,w2,hx]
    ·have h2:=eq_true h2
     simp[Yt,-Cda,-Cdb,Sq,g1,g3,c,c3,c4,c7,h4,hi,g,gp,p,h2,w1,w2,hx]
    ·simp[Yt,-Cda,-Cdb,Sq,g1,g3,c,c3,c4,h4,hi,g,gp,p,h2,h3,w1,w2,hx])
  b.ents.length 0 () [(1, .ptr (Bc H) 0 0 0),(3, .d (.int .i64 0))] (ap H [.row 0 2 [.d (Df b)]]) (by omega) ⟨rfl,rfl,rfl⟩
 rw[Bcx] at key
 obtain⟨o,e',X',he,hq⟩:=key.out
 have p1:=Pt b.now 0 1000000
 unfold K4
 by_cases h:D9 (Pv b) b.ents.length 0=true
 ·rw[if_pos h] at hq
  obtain⟨rfl,tk,g2⟩:=hq
  simp[Yt,-Cda,-Cdb,f14,he,tk,g2,h]
 ·rw[if_neg h] at hq
  obtain⟨rfl,rfl,g1⟩:=hq
  obtain⟨x,hx⟩: ∃x,(decide (b.now≥0) &&decide (b.now≤1000000))=x:=⟨_,rfl⟩
  rw[hx] at p1
  have hx': (decide (0≤b.now) &&decide (b.now≤1000000))=x:=hx
  rw[hx']
  cases x
  ·simp[Yt,-Cda,-Cdb,f14,he,g1,h,p1]
  ·by_cases n2:b.ents.length≤12
   ·have n3: (b.ents.length:Int)≤12:=by omega
    simp[Yt,-Cda,-Cdb,f14,he,g1,h,p1,n2,n3]
   ·have n3: ¬ (b.ents.length:Int)≤12:=by omega
    simp[Yt,-Cda,-Cdb,f14,he,g1,h,p1,n2,n3]
theorem B60 (b:Ba) (hf:BaFit b):Be (ev R) 24 [.d (Df b)]=some (.d (.bool (K4 b))):=Bb fun H=>by
 refine Bh (fn:=f24) rfl rfl ?_
 have key:=Bb2 (F:=Bq (ev R) R.glob (Bc H) Bg Su) (lv:=[1,16,17,18]) (fun i (_:Unit)=>if Pv b i=true then(.inr ():Unit ⊕ Unit) else .inl ()) b.ents.length
  (fun i _ e X=>X=ap H [.row 0 2 [.d (Df b)]]∧e.get 1= .ptr (Bc H) 0 0 0∧e.get 16= .d (La b.ents)∧e.get 17= .d (.int .i64 b.ents.length)∧e.get 18= .d (.int .i64 i))
  (fun _ o e X=>o= .exit 0∧X=ap H [.row 0 2 [.d (Df b)]]) (fun _ o e X=>o= .ret∧Cx X (Bc H)=H∧e.get 2= .d (.bool false))
  (by
   rintro s e X ⟨rfl,g1,g16,g17,g18⟩
   simp[Yt,-Cda,-Cdb,Su,g1,g16,g17,g18])
  (by
   rintro i s e X hi ⟨rfl,g1,g16,g17,g18⟩
   have c: (i:Int)< (b.ents.length:Int):=by have:=hi;omega
   have g:=Gt b.ents i hi
   have p:=Bb (cl:=ev R) fun H=>B8e H (b.ents.getD i default) (hf.each _ (Jc hi))
   have w1:IntKind.i64.wrap ((i:Int)+1)=((i+1:Nat):Int):=by rw[IntWalk.i64_in _ (by have:=hf.len;omega)];rfl
   have w2:0<i→IntKind.i64.wrap ((i:Int) - 1)=((i - 1:Nat):Int):=fun h4=>by rw[IntWalk.i64_in _ (by have:=hf.len;omega)];omega
   have gp:=fun h:0<i=>Gt b.ents (i - 1) (by omega)
   unfold Pv
   by_cases h1:Gl (b.ents.getD i default)=true
   ·rw[h1] at p
    by_cases h4:0<i
    ·have w2:=w2 h4
     have gp:=gp h4
     have c3:i - 1<b.ents.length:=by omega
     have c4: (0:Int)< (i:Int):=by omega
     have c7: ¬i=0:=by omega
     generalize b.ents.getD i default=E at*
     generalize b.ents.getD (i - 1) default=E0 at*
     unfold Yl
     rw[h1]
     obtain⟨x,hx⟩: ∃x,Op.bytesLess E0.key E.key=x:=⟨_,rfl⟩
     cases x
     ·simp[Yt,-Cda,-Cdb,Su,g1,g16,g17,g18,c,c3,c4,c7,h4,hi,g,gp,p,w2,hx]
     ·by_cases h2:E.till=0
      ·have h2:=eq_true h2
       simp[Yt,-Cda,-Cdb,Su,g1,g16,g17,g18,c,c3,c4,c7,h4,hi,g,gp,p,h2,w1,w2,hx]
      ·by_cases h3:E.till≤b.now
       ·simp[Yt,-Cda,-Cdb,Su,g1,g16,g17,g18,c,c3,c4,c7,h4,hi,g,gp,p,h2,h3,w1,w2,hx]
       ·simp[Yt,-Cda,-Cdb,Su,g1,g16,g17,g18,c,c3,c4,c7,h4,hi,g,gp,p,h2,h3,w1,w2,hx]
    ·have c4: ¬ (0:Int)< (i:Int):=by omega
     have c6: (i=0)=True:=eq_true (by omega)
     generalize b.ents.getD i default=E at*
     generalize b.ents.getD (i - 1) default=E0 at*
     unfold Yl
     rw[h1]
     by_cases h2:E.till=0
     ·have h2:=eq_true h2
      simp[Yt,-Cda,-Cdb,Su,g1,g16,g17,g18,c,c4,c6,h4,hi,g,p,h2,w1]
     ·by_cases h3:E.till≤b.now
      ·simp[Yt,-Cda,-Cdb,Su,g1,g16,g17,g18,c,c4,c6,h4,hi,g,p,h2,h3,w1]
      ·simp[Yt,-Cda,-Cdb,Su,g1,g16,g17,g18,c,c4,c6,h4,hi,g,p,h2,h3,w1]
   ·rw[Bool.not_eq_true] at h1
    rw[h1] at p
    generalize b.ents.getD i default=E at*
    unfold Yl
    rw[h1]
    simp[Yt,-Cda,-Cdb,Su,g1,g16,g17,g18,c,hi,g,p])
  b.ents.length 0 () [(1, .ptr (Bc H) 0 0 0),(16, .d (La b.ents)),(17, .d (.int .i64 b.ents.length)),(18, .d (.int .i64 0))] (ap H [.row 0 2 [.d (Df b)]]) (by omega) ⟨rfl,rfl,rfl,rfl,rfl⟩
 rw[Bcx] at key
 obtain⟨o,e',X',he,hq⟩:=key.out
 have p1:=Bck b.now 0 1000000
 unfold K4
 obtain⟨x,hx⟩: ∃x,(decide (b.now≥0) &&decide (b.now≤1000000))=x:=⟨_,rfl⟩
 rw[hx] at p1
 have hx': (decide (0≤b.now) &&decide (b.now≤1000000))=x:=hx
 rw[hx']
 cases x
 ·simp[Yt,-Cda,-Cdb,f24,p1]
 ·by_cases n2:b.ents.length≤12
  ·have n3: ¬ (12:Int)< (b.ents.length:Int):=by omega
   have n4: ¬12<b.ents.length:=by omega
   by_cases h:D9 (Pv b) b.ents.length 0=true
   ·rw[if_pos h] at hq
    obtain⟨rfl,tk,g2⟩:=hq
    simp[Yt,-Cda,-Cdb,f24,p1,n2,n3,n4,he,tk,g2,h]
   ·rw[if_neg h] at hq
    obtain⟨rfl,rfl⟩:=hq
    simp[Yt,-Cda,-Cdb,f24,p1,n2,n3,n4,he,h]
  ·have n3: (12:Int)< (b.ents.length:Int):=by omega
   have n4:12<b.ents.length:=by omega
   simp[Yt,-Cda,-Cdb,f24,p1,n2,n3,n4]
def Tq (now:Int) (e:En):Bool:=decide (e.till=0) ||decide (now<e.till)
def Bix (b:Ba) (n:Int):Ba:=⟨b.now+n,b.ents.filter (Tq (b.now+n))⟩
def Ye (b:Ba) (n:Int):Ba:=if K4 b=true then(if 0≤n∧n≤1000000 - b.now then Bix b n else b) else⟨0,[]⟩
theorem B6g (b:Ba) (n:Int) (hb:BaSm b) (h1: -1000000000≤b.now∧b.now≤1000000000) (h2: -1000000000≤n∧n≤1000000000):Be (ev R) 172 [.d (Df b), .d (.int .i64 n)]=some (.d (Df (Bix b n))):=Bb fun H=>by
 refine Bh (fn:=f172) rfl rfl ?_
 have hbl:=hb.len
 unfold Bix
 obtain⟨N,hN⟩: ∃N,b.now+n=N:=⟨_,rfl⟩
 have w:IntKind.i64.wrap (b.now+n)=N:=by rw[IntWalk.i64_in _ (by omega),hN]
 rw[hN]
 obtain⟨o,e',X',he,rfl,rfl,g4,g5⟩:=(C9 (F:=Bq (ev R) R.glob (Bc H) Bg Qe) (lv:=[2,4,5,6]) b.ents.length
  (fun i e X=>X=ap H (cpH b N ((b.ents.take i).filter (Tq N)) H)∧e.get 2= .ptr (Bc H) 0 0 0∧e.get 4= .ptr (Bc H+1) 0 0 0∧e.get 5= .ptr (Bc H+2) 0 0 0∧e.get 6= .d (.int .i64 i))
  (fun o e X=>o= .exit 0∧X=ap H (cpH b N (b.ents.filter (Tq N)) H)∧e.get 4= .ptr (Bc H+1) 0 0 0∧e.get 5= .ptr (Bc H+2) 0 0 0)
  (by
   rintro e X ⟨rfl,g2,g4,g5,g6⟩
   rw[Cdm]
   cases hz:b.ents.filter (Tq N) with
   |nil=>simp(maxSteps:=1000000) [Ci,-Cda,-Cdb,Qe,g2,g4,g5,g6,cpH]
   |cons z r=>simp(maxSteps:=1000000) [Ci,-Cda,-Cdb,Qe,g2,g4,g5,g6,cpH])
  (by
   rintro i e X hi ⟨rfl,g2,g4,g5,g6⟩
   have c: (i:Int)< (b.ents.length:Int):=by omega
   have c0: (0:Int)≤(i:Int):=by omega
   have g:=Gt b.ents i hi
   have p:=Bxu (b.ents.getD i default) (hb.each _ (Jc hi))
   have w1:IntKind.i64.wrap ((i:Int)+1)=(i:Int)+1:=IntWalk.i64_in _ (by omega)
   rw[Ps _ b.ents i default hi]
   have hl:=Uc (Tq N) b.ents i hi
   have hs:Tq N (b.ents.getD i default)=(decide ((b.ents.getD i default).till=0) ||decide (N< (b.ents.getD i default).till)):=rfl
   generalize b.ents.getD i default=x at*
   generalize(b.ents.take i).filter (Tq N)=zs at*
   by_cases k:x.till=0
   ·have hs:Tq N x=true:=by rw[hs];simp[k]
    rw[hs]
    simp only[if_true]
    cases zs with
    |nil=>simp(maxSteps:=1000000) [Ci,-Cda,-Cdb,Qe,g2,g4,g5,g6,c,c0,hi,g,p,w1,cpH,Ct,eq_true k]
    |cons z r=>
     have rm: (r.length+1+1)*120≤Ct:=by simp only[Cdc] at hl;unfold Ct;omega
     simp(maxSteps:=1000000) [Ci,-Cda,-Cdb,Qe,g2,g4,g5,g6,c,c0,hi,g,p,w1,cpH,rm,eq_true k]
   ·by_cases j:N<x.till
    ·have hs:Tq N x=true:=by rw[hs];simp[j]
     rw[hs]
     simp only[if_true]
     cases zs with
     |nil=>simp(maxSteps:=1000000) [Ci,-Cda,-Cdb,Qe,g2,g4,g5,g6,c,c0,hi,g,p,w1,cpH,Ct,eq_false k,eq_true j]
     |cons z r=>
      have rm: (r.length+1+1)*120≤Ct:=by simp only[Cdc] at hl;unfold Ct;omega
      simp(maxSteps:=1000000) [Ci,-Cda,-Cdb,Qe,g2,g4,g5,g6,c,c0,hi,g,p,w1,cpH,rm,eq_false k,eq_true j]
    ·have hs:Tq N x=false:=by rw[hs];simp[k,j]
     rw[hs]
     simp only[Cdw,if_false,List.append_nil]
     cases zs with
     |nil=>simp(maxSteps:=1000000) [Ci,-Cda,-Cdb,Qe,g2,g4,g5,g6,c,c0,hi,g,w1,cpH,eq_false k,eq_false j]
     |cons z r=>simp(maxSteps:=1000000) [Ci,-Cda,-Cdb,Qe,g2,g4,g5,g6,c,c0,hi,g,w1,cpH,eq_false k,eq_false j])
  b.ents.length 0 [(2, .ptr (Bc H) 0 0 0),(4, .ptr (Bc H+1) 0 0 0),(5, .ptr (Bc H+2) 0 0 0),(6, .d (.int .i64 0))] (ap H (cpH b N [] H)) (by omega) ⟨rfl,rfl,rfl,rfl,rfl⟩).out
 cases hz:b.ents.filter (Tq N) with
 |nil=>
  rw[hz] at he
  simp only[cpH] at he
  simp(maxSteps:=1000000) [Ci,-Cda,-Cdb,f172,w,he,g4,g5,Gj,hz,cpH]
 |cons z r=>
  rw[hz] at he
  simp only[cpH] at he
  simp(maxSteps:=1000000) [Ci,-Cda,-Cdb,f172,w,he,g4,g5,hz,cpH]
  rfl
theorem Bx0 {b:Ba} (h:BaG b) {n:Int} (h2:0≤b.now+n∧b.now+n≤2000000):BaG (Bix b n):=
 ⟨Nat.le_trans (List.length_filter_le _ _) h.len,fun e he=>h.each e (List.mem_filter.1 he).1,h2⟩
theorem Ba0 {b:Ba} (h:BaG b) (n:Int):BaG (Ye b n):=by
 unfold Ye
 split
 ·split
  ·exact Bx0 h (by have:=h.now;omega)
  ·exact h
 ·exact⟨by simp,by simp,by simp⟩
theorem Cas (b:Ba) (n:Int) (hb:BaSm b) (hf:BaFit b) (h1: -1000000000≤b.now∧b.now≤1000000000) (h2: -1000000000≤n∧n≤1000000000):Be (ev R) 66 [.d (Df b), .d (.int .i64 n)]=some (.d (Df (Ye b n))):=Bb fun H=>by
 refine Bh (fn:=f66) rfl rfl ?_
 have p0:=Box b hb.len hb.each
 have z0:=Bzj b
 have t0:=Bym b
 have p1:=B1d b hf
 have p2:=Pt n 0 (1000000 - b.now)
 have p3:=B6g b n hb h1 h2
 have w:IntKind.i64.wrap (1000000 - b.now)=1000000 - b.now:=IntWalk.i64_in _ (by omega)
 unfold Ye
 generalize Bix b n=T at*
 cases hk:K4 b with
 |false=>rw[hk] at p1;simp(maxSteps:=1000000) [Ci,-Cda,-Cdb,f66,p1,Gj]
 |true=>
  rw[hk] at p1
  by_cases a:0≤n
  ·by_cases c:n≤1000000 - b.now
   ·simp(maxSteps:=1000000) [Ci,-Cda,-Cdb,f66,p0, ↓z0, ↓t0,p1,p2,p3,w,eq_true a,eq_true c]
   ·simp(maxSteps:=1000000) [Ci,-Cda,-Cdb,f66,p0, ↓z0, ↓t0,p1,p2,p3,w,eq_true a,eq_false c]
  ·simp(maxSteps:=1000000) [Ci,-Cda,-Cdb,f66,p0, ↓z0, ↓t0,p1,p2,p3,w,eq_false a]
theorem Bas: ∀ (x y:Br),Op.bytesLess x y=decide (x<y)
 | [],[]=>by decide
 | [],_::_=>by simp[Op.bytesLess]
 |_::_,[]=>by simp[Op.bytesLess]
 |a::x,c::y=>by
  simp only[Op.bytesLess,Bas x y,List.cons_lt_cons_iff]
  by_cases h1:a<c
  ·simp[h1]
  ·by_cases h2:a=c
   ·subst h2;simp
   ·simp[h1,h2]
theorem Rt {x y z:Br} (h1:Op.bytesLess x y=true) (h2:Op.bytesLess y z=true):Op.bytesLess x z=true:=by
 rw[Bas,decide_eq_true_eq] at*
 exact List.lt_trans h1 h2
theorem Mv (x:Br):Op.bytesLess x x=false:=by
 rw[Bas,decide_eq_false_iff_not]
 exact List.lt_irrefl x
theorem Bkz {x y:Br} (h1:Op.bytesLess x y=false) (h2: ¬x=y):Op.bytesLess y x=true:=by
 rw[Bas] at*
 rw[decide_eq_false_iff_not] at h1
 rw[decide_eq_true_eq]
 have h3:=List.not_lt.1 h1
 rcases List.le_iff_lt_or_eq.1 h3 with h|h
 ·exact h
 ·exact absurd h.symm h2
def Bzv (now:Int) (e:En):Prop:=e.till=0∨now<e.till
structure BaO (b:Ba):Prop where
 now:0≤b.now∧b.now≤1000000
 len:b.ents.length≤12
 each: ∀e∈b.ents,Gl e=true∧Bzv b.now e
 asc:b.ents.Pairwise fun a c=>Op.bytesLess a.key c.key=true
theorem Ba8: ∀ (es:List En),(∀i,0<i→i<es.length→Op.bytesLess (es.getD (i - 1) default).key (es.getD i default).key=true)→es.Pairwise fun a c=>Op.bytesLess a.key c.key=true
 | [],_=>List.Pairwise.nil
 | [x],_=>List.pairwise_singleton _ _
 |x::y::r,h=>by
  have ih:=Ba8 (y::r) fun i h1 h2=>by
   have:=h (i+1) (by omega) (by simp only[Cdc] at h2⊢;omega)
   have e1: (x::y::r).getD (i+1 - 1) default=(y::r).getD (i - 1) default:=by
    obtain⟨j,rfl⟩: ∃j,i=j+1:=⟨i - 1,by omega⟩
    rfl
   rw[e1] at this
   exact this
  have hxy:Op.bytesLess x.key y.key=true:=h 1 (by omega) (by simp)
  refine List.Pairwise.cons (fun z hz=> ?_) ih
  rcases List.mem_cons.1 hz with rfl|hz
  ·exact hxy
  ·exact Rt hxy (List.rel_of_pairwise_cons ih hz)
theorem Blr {es:List En} (h:es.Pairwise fun a c=>Op.bytesLess a.key c.key=true) (i:Nat) (h0:0<i) (hi:i<es.length):Op.bytesLess (es.getD (i - 1) default).key (es.getD i default).key=true:=by
 have:=(List.pairwise_iff_getElem.1 h) (i - 1) i (by omega) hi (by omega)
 simpa[Cda,Cdh hi,Cdh (show i - 1<es.length by omega)] using this
theorem Q8 (b:Ba):K4 b=true↔BaO b:=by
 unfold K4
 simp only[Cdv,Cdy,decide_eq_true_eq]
 constructor
 ·rintro⟨h1,⟨h2,h3⟩,h4⟩
  have hb:=fun i (hi:i<b.ents.length)=>Qo h1 i (Nat.zero_le i) (by omega)
  refine⟨⟨h2,h3⟩,h4,Np default fun i hi=> ?_,Ba8 _ fun i h0 hi=> ?_⟩
  ·have:=hb i hi
   unfold Pv Yl at this
   simp only[Bool.or_eq_false_iff,Bool.not_eq_false',Cd0,decide_eq_false_iff_not] at this
   refine⟨this.1.1, ?_⟩
   unfold Bzv
   rcases this.1.2 with h|h
   ·exact .inl (Decidable.not_not.1 h)
   ·exact .inr (by omega)
  ·have:=hb i hi
   unfold Pv Yl at this
   simp only[Bool.or_eq_false_iff,Bool.not_eq_false',Cd0,decide_eq_false_iff_not] at this
   rcases this.2 with h|h
   ·omega
   ·exact h
 ·intro h
  refine⟨Bmy fun i _ hi=> ?_,h.now,h.len⟩
  have hi:i<b.ents.length:=by omega
  have he:=h.each _ (Jc hi:b.ents.getD i default∈b.ents)
  unfold Pv Yl
  rw[he.1]
  have h2: (decide ((b.ents.getD i default).till≠0) &&decide ((b.ents.getD i default).till≤b.now))=false:=by
   rw[Cd0,decide_eq_false_iff_not,decide_eq_false_iff_not]
   rcases he.2 with h|h
   ·exact .inl (fun hn=>hn h)
   ·exact .inr (by omega)
  rw[h2]
  by_cases h0:0<i
  ·rw[Blr h.asc i h0 hi];simp
  ·simp[h0]
theorem BaO.g {b:Ba} (h:BaO b):BaG b:=⟨h.len,fun e he=> (h.each e he).1,by have:=h.now;omega⟩
theorem B3a (H:Hp) (xs:List Br) (hx:xs.length≤1000000):ev R 35 [.d (Bf xs)] H=some (.slc (Bc H) 0 0 xs.length,ap H [.row 0 1 ((xs.map D.str).map V.d)]):=by
 refine Bh (fn:=f35) rfl rfl ?_
 have r:xs.length*16≤Ct:=by unfold Ct;omega
 simp[Cg,-Cda,-Cdb,f35,Bf,r,U7]
theorem B65 (xs:List Br) (hx:xs.length≤1000000):F9 (ev R) 35 [.d (Bf xs)]=some (.d (Bf xs)):=by
 refine Jh fun H=> ⟨_,_,B3a H xs hx, ?_,Ll H _⟩
 simp[Cg,-Cda,-Cdb,Bf]
theorem B0a (xs:List Br) (hx:xs.length≤1000000):Be (ev R) 35 [.d (Bf xs)]=none:=by
 cases h:Be (ev R) 35 [.d (Bf xs)] with
 |none=>rfl
 |some v=>
  have h1:=Dr h []
  rw[B3a [] xs hx] at h1
  simp[ap] at h1
theorem B3d (H:Hp) (xs:List Sc) (hx:xs.length≤1000000):ev R 50 [.d (De xs)] H=some (.slc (Bc H) 0 0 xs.length,ap H [.row 0 2 ((xs.map Kh).map V.d)]):=by
 refine Bh (fn:=f50) rfl rfl ?_
 have r:xs.length*24≤Ct:=by unfold Ct;omega
 simp[Cg,-Cda,-Cdb,f50,r,U7]
theorem Cam (xs:List Sc) (hx:xs.length≤1000000):F9 (ev R) 50 [.d (De xs)]=some (.d (De xs)):=by
 refine Jh fun H=> ⟨_,_,B3d H xs hx, ?_,Ll H _⟩
 simp[Cg,-Cda,-Cdb]
theorem B66 (xs:List Sc) (hx:xs.length≤1000000):Be (ev R) 50 [.d (De xs)]=none:=by
 cases h:Be (ev R) 50 [.d (De xs)] with
 |none=>rfl
 |some v=>
  have h1:=Dr h []
  rw[B3d [] xs hx] at h1
  simp[ap] at h1
theorem B3e (H:Hp) (xs:List Pr) (hx:xs.length≤1000000):ev R 51 [.d (D7 xs)] H=some (.slc (Bc H) 0 0 xs.length,ap H [.row 0 2 ((xs.map Kz).map V.d)]):=by
 refine Bh (fn:=f51) rfl rfl ?_
 have r:xs.length*32≤Ct:=by unfold Ct;omega
 simp[Cg,-Cda,-Cdb,f51,r,U7]
theorem Cao (xs:List Pr) (hx:xs.length≤1000000):F9 (ev R) 51 [.d (D7 xs)]=some (.d (D7 xs)):=by
 refine Jh fun H=> ⟨_,_,B3e H xs hx, ?_,Ll H _⟩
 simp[Cg,-Cda,-Cdb]
theorem B67 (xs:List Pr) (hx:xs.length≤1000000):Be (ev R) 51 [.d (D7 xs)]=none:=by
 cases h:Be (ev R) 51 [.d (D7 xs)] with
 |none=>rfl
 |some v=>
  have h1:=Dr h []
  rw[B3e [] xs hx] at h1
  simp[ap] at h1
theorem B61 (e:En) (h:EnSm e):Be (ev R) 25 [.d (Jn e)]=some (.d (Jn e)):=Bb fun H=>by
 refine Bh (fn:=f25) rfl rfl ?_
 obtain⟨key,till,kind,text,list,scores,fields⟩:=e
 obtain⟨h1,h2,h3⟩:=h
 dsimp only at h1 h2 h3
 have a1:=B65 list h1
 have a2:=B0a list h1
 have b1:=Cam scores h2
 have b2:=B66 scores h2
 have c1:=Cao fields h3
 have c2:=B67 fields h3
 simp[Cg,-Cda,-Cdb,f25,a1,a2,b1,b2,c1,c2,Bf]
def cbH (b:Ba) (n:Int) (zs:List En) (H:Hp):Hp:=
 [.row 0 2 [.d (Df b)], .row 0 2 [.agg [.d (.int .i64 0), .nils 7]], .row zs.length 7 ((zs.map Jn).map V.d), .row 0 2 [.agg [.d (.int .i64 n), .slc (Bc H+2) zs.length 0 zs.length]]]
theorem B29 (b:Ba) (hb:b.ents.length≤1000000) (h: ∀e∈b.ents,EnSm e) (H:Hp):ev R 34 [.d (Df b)] H=some (.agg [.d (.int .i64 b.now), .slc (Bc H) 0 0 b.ents.length],ap H [.row 0 7 ((b.ents.map Jn).map V.d)]):=by
 refine Bh (fn:=f34) rfl rfl ?_
 obtain⟨o,e',X',he,rfl,rfl,g2,g3⟩:=(C9 (F:=Bq (ev R) R.glob (Bc H) Bg Bne) (lv:=[2,3,11,12,13]) b.ents.length
  (fun i e X=>X=ap H (cbH b b.now (b.ents.take i) H)∧e.get 2= .ptr (Bc H+1) 0 0 0∧e.get 3= .ptr (Bc H+3) 0 0 0∧e.get 11= .d (La b.ents)∧e.get 12= .d (.int .i64 b.ents.length)∧e.get 13= .d (.int .i64 i))
  (fun o e X=>o= .exit 0∧X=ap H (cbH b b.now b.ents H)∧e.get 2= .ptr (Bc H+1) 0 0 0∧e.get 3= .ptr (Bc H+3) 0 0 0)
  (by
   rintro e X ⟨rfl,g2,g3,g11,g12,g13⟩
   rw[Cdm]
   simp(maxSteps:=1000000) [Ci,-Cda,-Cdb,Bne,g2,g3,g11,g12,g13,cbH])
  (by
   rintro i e X hi ⟨rfl,g2,g3,g11,g12,g13⟩
   have c: (i:Int)< (b.ents.length:Int):=by omega
   have c0: (0:Int)≤(i:Int):=by omega
   have g:=Gt b.ents i hi
   have p:=B61 (b.ents.getD i default) (h _ (Jc hi))
   have w1:IntKind.i64.wrap ((i:Int)+1)=(i:Int)+1:=IntWalk.i64_in _ (by omega)
   have hs:=J8 b.ents i default hi
   have hl: (b.ents.take i).length=i:=by rw[Cdn];omega
   have hl2: (b.ents.take (i+1)).length=i+1:=by rw[Cdn];omega
   have sf:List.map V.d (List.map Jn (b.ents.take i))++[V.d (Jn (b.ents.getD i default))]=List.map V.d (List.map Jn (b.ents.take (i+1))):=by rw[hs];simp
   clear hs
   generalize b.ents.getD i default=x at*
   generalize b.ents.take i=zs at*
   generalize b.ents.take (i+1)=ys at*
   have rm: (i+1)*120≤Ct:=by unfold Ct;omega
   simp(maxSteps:=1000000) [Ci,-Cda,-Cdb,Bne,g2,g3,g11,g12,g13,c,c0,hi,g,p,w1,cbH,rm,hl,hl2,sf])
  b.ents.length 0 [(2, .ptr (Bc H+1) 0 0 0),(3, .ptr (Bc H+3) 0 0 0),(11, .d (La b.ents)),(12, .d (.int .i64 b.ents.length)),(13, .d (.int .i64 0))] (ap H (cbH b b.now [] H)) (by omega) ⟨rfl,rfl,rfl,rfl,rfl,rfl⟩).out
 simp only[cbH,List.map_nil,List.length_nil] at he
 simp(maxSteps:=1000000) [Ci,-Cda,-Cdb,f34,he,g2,g3,U7]
theorem B1g (b:Ba) (hb:BaSm b):F9 (ev R) 34 [.d (Df b)]=some (.d (Df b)):=by
 refine Jh fun H=> ⟨_,_,B29 b hb.len hb.each H, ?_,Ll H _⟩
 simp[Cg,-Cda,-Cdb]
theorem Btb (b:Ba) (hb:BaSm b):Be (ev R) 34 [.d (Df b)]=none:=by
 cases h:Be (ev R) 34 [.d (Df b)] with
 |none=>rfl
 |some v=>
  have h1:=Dr h []
  rw[B29 b hb.len hb.each []] at h1
  simp[ap] at h1
def Xk (p:Br) (es:List En):List Br:=(es.filter fun e=>Ki p e.key).map (·.key)
def Bjk (b:Ba) (p:Br):List Br:=if K4 b=true∧p.length≤12 then Xk p b.ents else[]
theorem Bkt (p:Br) (es:List En) (i:Nat) (hi:i<es.length):Xk p (es.take (i+1))=Xk p (es.take i)++(if Ki p (es.getD i default).key=true then[(es.getD i default).key] else[]):=by
 unfold Xk
 rw[Ps _ es i default hi,List.map_append]
 cases Ki p (es.getD i default).key<;>rfl
theorem Bo1 (p:Br) (es:List En): (Xk p es).length≤es.length:=by
 unfold Xk
 rw[List.length_map]
 exact List.length_filter_le _ _
theorem B6y (b:Ba) (p:Br) (hb:BaSm b) (hf:BaFit b) (hp:p.length≤1000000):Be (ev R) 228 [.d (Df b), .d (.str p)]=some (.d (Bf (Bjk b p))):=Bb fun H=>by
 refine Bh (fn:=f228) rfl rfl ?_
 have p1:=B1d b hf
 unfold Bjk
 have hbl:=hb.len
 by_cases hg:K4 b=true∧p.length≤12
 ·rw[if_pos hg]
  rw[hg.1] at p1
  have hg2: (p.length:Int)≤12:=by have:=hg.2;omega
  have hem: ∀e∈b.ents,Gl e=true:=by
   have h:=hg.1
   unfold K4 at h
   simp only[Cdv,Cdy] at h
   refine Np default fun i hi=> ?_
   have:=Qo h.1 i (by omega) (by omega)
   unfold Pv Yl at this
   simp only[Bool.or_eq_false_iff,Bool.not_eq_false'] at this
   exact this.1.1
  have lp:=(C9 (F:=Bq (ev R) R.glob (Bc H) Bg Pe) (lv:=[1,2,5,6]) b.ents.length
   (fun i e X=> ∃zs:List Br,zs=Xk p (b.ents.take i)∧X=ap H [.row 0 2 [.d (Df b)], .row zs.length 1 ((zs.map D.str).map V.d)]∧e.get 1= .d (.str p)∧e.get 2= .ptr (Bc H) 0 0 0∧e.get 5= .slc (Bc H+1) zs.length 0 zs.length∧e.get 6= .d (.int .i64 i))
   (fun o e X=> ∃zs:List Br,zs=Xk p b.ents∧o= .exit 0∧X=ap H [.row 0 2 [.d (Df b)], .row zs.length 1 ((zs.map D.str).map V.d)]∧e.get 5= .slc (Bc H+1) zs.length 0 zs.length)
   (by
    rintro e X ⟨zs,hz,rfl,g1,g2,g5,g6⟩
    rw[Cdm] at hz
    have key:Bq (ev R) R.glob (Bc H) Bg Pe ⟨e.keep [1,2,5,6],ap H [.row 0 2 [.d (Df b)], .row zs.length 1 ((zs.map D.str).map V.d)]⟩=some (.exit 0,⟨[(1, .d (.str p)),(2, .ptr (Bc H) 0 0 0),(5, .slc (Bc H+1) zs.length 0 zs.length),(6, .d (.int .i64 b.ents.length)),(21, .d (.bool false))],ap H [.row 0 2 [.d (Df b)], .row zs.length 1 ((zs.map D.str).map V.d)]⟩):=by
     simp(maxSteps:=1000000) [Ci,-Cda,-Cdb,Pe,g1,g2,g5,g6]
    rw[key]
    exact⟨by simp,zs,hz,rfl,rfl,rfl⟩)
   (by
    rintro i e X hi ⟨zs,hz,rfl,g1,g2,g5,g6⟩
    have c: (i:Int)< (b.ents.length:Int):=by omega
    have c0: (0:Int)≤(i:Int):=by omega
    have g:=Gt b.ents i hi
    have hn:=Bkt p b.ents i hi
    have hl:zs.length≤i:=by rw[hz];exact Nat.le_trans (Bo1 _ _) (by rw[Cdn];omega)
    rw[←hz] at hn
    have hk:=(Bfl (hem _ (Jc hi:b.ents.getD i default∈b.ents))).key
    have p2:=B64 p (b.ents.getD i default).key hp (by omega)
    have w1:IntKind.i64.wrap ((i:Int)+1)=((i+1:Nat):Int):=by rw[IntWalk.i64_in _ (by omega)];rfl
    have r: (zs.length+1)*16≤Ct:=by unfold Ct;omega
    generalize b.ents.getD i default=E at*
    cases hm:Ki p E.key with
    |false=>
     rw[hm] at p2 hn
     simp only[Cdw,if_false,List.append_nil] at hn
     simp(maxSteps:=1000000) [Ci,-Cda,-Cdb,Pe,g1,g2,g5,g6,c,c0,hi,g,p1,p2,hg2,w1,r,hn]
    |true=>
     rw[hm] at p2 hn
     simp only[if_true] at hn
     simp(maxSteps:=1000000) [Ci,-Cda,-Cdb,Pe,g1,g2,g5,g6,c,c0,hi,g,p1,p2,hg2,w1,r,hn])
   b.ents.length 0 [(1, .d (.str p)),(2, .ptr (Bc H) 0 0 0),(5, .slc (Bc H+1) 0 0 0),(6, .d (.int .i64 0))] (ap H [.row 0 2 [.d (Df b)], .row 0 1 []]) (by omega) ⟨[],by simp[Xk],rfl,rfl,rfl,rfl,rfl⟩).out
  obtain⟨o,e',X',he,zs,hz,rfl,rfl,g5⟩:=lp
  rw[←hz]
  have ft:List.take zs.length ((zs.map D.str).map V.d)=(zs.map D.str).map V.d:=List.take_of_length_le (by simp)
  simp(maxSteps:=1000000) [Ci,-Cda,-Cdb,f228,he,g5,ft]
 ·rw[if_neg hg]
  have st:Bq (ev R) R.glob (Bc H) Bg Pe ⟨Env.keep [(1, .d (.str p)),(2, .ptr (Bc H) 0 0 0),(5, .slc (Bc H+1) 0 0 0),(6, .d (.int .i64 0))] [1,2,5,6],ap H [.row 0 2 [.d (Df b)], .row 0 1 []]⟩=some (.exit 0,⟨[(1, .d (.str p)),(2, .ptr (Bc H) 0 0 0),(5, .slc (Bc H+1) 0 0 0),(6, .d (.int .i64 0)),(21, .d (.bool false))],ap H [.row 0 2 [.d (Df b)], .row 0 1 []]⟩):=by
   by_cases h0:b.ents.length=0
   ·have h0': ¬ (0:Int)< (b.ents.length:Int):=by omega
    have h0'':b.ents=[]:=List.eq_nil_of_length_eq_zero h0
    simp(maxSteps:=1000000) [Ci,-Cda,-Cdb,Pe,h0',h0'']
   ·have h0': (0:Int)< (b.ents.length:Int):=by omega
    have h0'':b.ents≠[]:=fun h=>h0 (by rw[h];rfl)
    have h0''':0<b.ents.length:=by omega
    cases hk:K4 b with
    |false=>rw[hk] at p1;simp(maxSteps:=1000000) [Ci,-Cda,-Cdb,Pe,h0',h0'',h0''',p1]
    |true=>
     rw[hk] at p1
     have hp2: ¬ (p.length:Int)≤12:=fun h=>hg ⟨hk,by omega⟩
     simp(maxSteps:=1000000) [Ci,-Cda,-Cdb,Pe,h0',h0'',h0''',p1,hp2]
  have he:=Gb (F:=Bq (ev R) R.glob (Bc H) Bg Pe) (lv:=[1,2,5,6]) (st:=⟨[(1, .d (.str p)),(2, .ptr (Bc H) 0 0 0),(5, .slc (Bc H+1) 0 0 0),(6, .d (.int .i64 0))],ap H [.row 0 2 [.d (Df b)], .row 0 1 []]⟩) st (by simp)
  simp(maxSteps:=1000000) [Ci,-Cda,-Cdb,f228,he]
end Go.Proofs.YtpajcoanfkeibaaGreatDoor.Code

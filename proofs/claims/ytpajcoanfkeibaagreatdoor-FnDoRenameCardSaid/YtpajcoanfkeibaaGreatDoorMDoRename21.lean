/- Lemmas (several texts in one). -/
import Derived.Test.YtpajcoanfkeibaaGreatDoorMDoRename6
import Derived.Test.YtpajcoanfkeibaaGreatDoorMDoRename8
import Derived.Test.YtpajcoanfkeibaaGreatDoorMDoRename12
import Derived.Test.YtpajcoanfkeibaaGreatDoorMDoRename15
import Derived.Test.YtpajcoanfkeibaaGreatDoorMDoRename20
set_option maxRecDepth 100000
set_option maxHeartbeats 4000000
set_option linter.unusedSimpArgs false
set_option linter.unusedVariables false
namespace Go.Proofs.YtpajcoanfkeibaaGreatDoor.Code
open Go Go.Ev Go.Proofs
def Ye (now:Int) (i:Nat) (p e:En):Bool:= !Gn e|| (decide (e.till≠0) &&decide (e.till≤now)) || (decide (0<i) && !Op.bytesLess p.key e.key)
def Pt (b:Ba) (i:Nat):Bool:=Ye b.now i (b.ents.getD (i - 1) default) (b.ents.getD i default)
def Jo (b:Ba):Bool:= !D9 (Pt b) b.ents.length 0&& (decide (0≤b.now) &&decide (b.now≤1000000) &&decide (b.ents.length≤12))
theorem Bck (p:Nat→Bool): ∀ (n i:Nat),Bsw (fun i (_:Unit)=>if p i=true then(.inr ():Unit ⊕ Unit) else .inl ()) n i ()=if D9 p n i=true then .inr () else .inl ()
 |0,i=>rfl
 |n+1,i=>by
  simp only[Bsw,D9]
  by_cases h:p i=true
  ·simp[h]
  ·simp only[h,if_false,Bool.false_or]
   exact Bck p n (i+1)
theorem Bnv (now:Int) (i:Nat) (p e:En) {C:Prop} (k1:Gn e=false→Ye now i p e=true→C)
  (k2:Gn e=true→e.till≠0→e.till≤now→Ye now i p e=true→C)
  (k3:Gn e=true→(e.till=0∨(e.till≠0∧¬e.till≤now))→i=0→Ye now i p e=false→C)
  (k4:Gn e=true→(e.till=0∨(e.till≠0∧¬e.till≤now))→0<i→(∃x,Op.bytesLess p.key e.key=x∧Ye now i p e= !x)→C):C:=by
 unfold Ye at*
 by_cases h1:Gn e=true
 ·by_cases h2:e.till=0
  ·by_cases h4:i=0
   ·exact k3 h1 (.inl h2) h4 (by simp[h1,h2,h4])
   ·exact k4 h1 (.inl h2) (by omega) ⟨_,rfl,by simp[h1,h2,show 0<i by omega]⟩
  ·by_cases h3:e.till≤now
   ·exact k2 h1 h2 h3 (by simp[h1,h2,h3])
   ·by_cases h4:i=0
    ·exact k3 h1 (.inr ⟨h2,h3⟩) h4 (by simp[h1,h2,h3,h4])
    ·exact k4 h1 (.inr ⟨h2,h3⟩) (by omega) ⟨_,rfl,by simp[h1,h2,h3,show 0<i by omega]⟩
 ·exact k1 (by simpa using h1) (by simp[h1])
theorem Bjh (b:Ba) (i:Nat) {C:Prop} (k1:Gn (b.ents.getD i default)=false→Pt b i=true→C)
  (k2:Gn (b.ents.getD i default)=true→(b.ents.getD i default).till≠0→(b.ents.getD i default).till≤b.now→Pt b i=true→C)
  (k3:Gn (b.ents.getD i default)=true→((b.ents.getD i default).till=0∨((b.ents.getD i default).till≠0∧¬ (b.ents.getD i default).till≤b.now))→i=0→Pt b i=false→C)
  (k4:Gn (b.ents.getD i default)=true→((b.ents.getD i default).till=0∨((b.ents.getD i default).till≠0∧¬ (b.ents.getD i default).till≤b.now))→0<i→(∃x,Op.bytesLess (b.ents.getD (i - 1) default).key (b.ents.getD i default).key=x∧Pt b i= !x)→C):C:=
 Bnv _ _ _ _ k1 k2 k3 k4
theorem Bzz (b:Ba) (hf:BaFit b):Be (ev R) 14 [.d (Df b)]=some (.d (.bool (Jo b))):=Bb fun H=>by
 refine Bh (fn:=f14) rfl rfl ?_
 have bx:1≤b.ents.length→0≤b.ents.length:=fun _=>Nat.zero_le _
 have key:=Bbp (F:=Bp (ev R) R.glob (Bc H) Bg Sk) (lv:=[1,3]) (fun i (_:Unit)=>if Pt b i=true then(.inr ():Unit ⊕ Unit) else .inl ()) b.ents.length
  (fun i _ e X=>X=ap H [.row 0 2 [.d (Df b)]]∧e.get 1= .ptr (Bc H) 0 0 0∧e.get 3= .d (.int .i64 i))
  (fun _ o e X=>o= .exit 0∧X=ap H [.row 0 2 [.d (Df b)]]∧e.get 1= .ptr (Bc H) 0 0 0) (fun _ o e X=>o= .ret∧Cx X (Bc H)=H∧e.get 2= .d (.bool false))
  (by
   rintro s e X ⟨rfl,g1,g3⟩
   simp[Yl,-List.getD_eq_getElem?_getD,-List.map_map,Sk,g1,g3])
  (by
   rintro i s e X hi ⟨rfl,g1,g3⟩
   have c: (i:Int)< (b.ents.length:Int):=by have:=hi;omega
   have g:=Ja b.ents i hi
   have p:=Bb (cl:=ev R) fun H=>B1p H (b.ents.getD i default) (hf.each _ (Gr hi))
   have w1:IntKind.i64.wrap ((i:Int)+1)=((i+1:Nat):Int):=by rw[IntWalk.i64_in _ (by have:=hf.len;omega)];rfl
   refine Bjh b i ?_ ?_ ?_ ?_
   ·intro h1 hb
    rw[hb]
    rw[h1] at p
    simp[Yl,-List.getD_eq_getElem?_getD,-List.map_map,Sk,g1,g3,c,hi,g,p]
   ·intro h1 h2 h3 hb
    rw[hb]
    rw[h1] at p
    simp[Yl,-List.getD_eq_getElem?_getD,-List.map_map,Sk,g1,g3,c,hi,g,p,h2,h3]
   ·intro h1 h2 h4 hb
    rw[hb]
    rw[h1] at p
    have c4: ¬ (0:Int)< (i:Int):=by omega
    have c5: ¬0<i:=by omega
    have c6:=eq_true h4
    rcases h2 with h2| ⟨h2,h3⟩
    ·have h2:=eq_true h2
     simp[Yl,-List.getD_eq_getElem?_getD,-List.map_map,Sk,g1,g3,c,c4,c5,c6,hi,g,p,h2,w1]
    ·simp[Yl,-List.getD_eq_getElem?_getD,-List.map_map,Sk,g1,g3,c,c4,c5,c6,hi,g,p,h2,h3,w1]
   ·rintro h1 h2 h4 ⟨x,hx,hb⟩
    rw[hb]
    rw[h1] at p
    have w2:IntKind.i64.wrap ((i:Int) - 1)=((i - 1:Nat):Int):=by rw[IntWalk.i64_in _ (by have:=hf.len;omega)];omega
    have gp:=Ja b.ents (i - 1) (by omega)
    have c3:i - 1<b.ents.length:=by omega
    have c4: (0:Int)< (i:Int):=by omega
    have c7: ¬i=0:=by omega
    cases x<;>rcases h2 with h2| ⟨h2,h3⟩
    ·have h2:=eq_true h2
     simp[Yl,-List.getD_eq_getElem?_getD,-List.map_map,Sk,g1,g3,c,c3,c4,c7,h4,hi,g,gp,p,h2,w2,hx]
    ·simp[Yl,-List.getD_eq_getElem?_getD,-List.map_map,Sk,g1,g3,c,c3,c4,c7,h4,hi,g,gp,p,h2,h3,w2,hx]
    ·have h2:=eq_true h2
     simp[Yl,-List.getD_eq_getElem?_getD,-List.map_map,Sk,g1,g3,c,c3,c4,c7,h4,hi,g,gp,p,h2,w1,w2,hx]
    ·simp[Yl,-List.getD_eq_getElem?_getD,-List.map_map,Sk,g1,g3,c,c3,c4,h4,hi,g,gp,p,h2,h3,w1,w2,hx])
  b.ents.length 0 () [(1, .ptr (Bc H) 0 0 0),(3, .d (.int .i64 0))] (ap H [.row 0 2 [.d (Df b)]]) (by omega) ⟨rfl,rfl,rfl⟩
 rw[Bck] at key
 obtain⟨o,e',X',he,hq⟩:=key.out
 have p1:=Ps b.now 0 1000000
 unfold Jo
 by_cases h:D9 (Pt b) b.ents.length 0=true
 ·rw[if_pos h] at hq
  obtain⟨rfl,tk,g2⟩:=hq
  simp[Yl,-List.getD_eq_getElem?_getD,-List.map_map,f14,he,tk,g2,h]
 ·rw[if_neg h] at hq
  obtain⟨rfl,rfl,g1⟩:=hq
  obtain⟨x,hx⟩: ∃x,(decide (b.now≥0) &&decide (b.now≤1000000))=x:=⟨_,rfl⟩
  rw[hx] at p1
  have hx': (decide (0≤b.now) &&decide (b.now≤1000000))=x:=hx
  rw[hx']
  cases x
  ·simp[Yl,-List.getD_eq_getElem?_getD,-List.map_map,f14,he,g1,h,p1]
  ·by_cases n2:b.ents.length≤12
   ·have n3: (b.ents.length:Int)≤12:=by omega
    simp[Yl,-List.getD_eq_getElem?_getD,-List.map_map,f14,he,g1,h,p1,n2,n3]
   ·have n3: ¬ (b.ents.length:Int)≤12:=by omega
    simp[Yl,-List.getD_eq_getElem?_getD,-List.map_map,f14,he,g1,h,p1,n2,n3]
theorem Bow (b:Ba) (hf:BaFit b):Be (ev R) 24 [.d (Df b)]=some (.d (.bool (Jo b))):=Bb fun H=>by
 refine Bh (fn:=f24) rfl rfl ?_
 have key:=Bbp (F:=Bp (ev R) R.glob (Bc H) Bg Sm) (lv:=[1,16,17,18]) (fun i (_:Unit)=>if Pt b i=true then(.inr ():Unit ⊕ Unit) else .inl ()) b.ents.length
  (fun i _ e X=>X=ap H [.row 0 2 [.d (Df b)]]∧e.get 1= .ptr (Bc H) 0 0 0∧e.get 16= .d (Lf b.ents)∧e.get 17= .d (.int .i64 b.ents.length)∧e.get 18= .d (.int .i64 i))
  (fun _ o e X=>o= .exit 0∧X=ap H [.row 0 2 [.d (Df b)]]) (fun _ o e X=>o= .ret∧Cx X (Bc H)=H∧e.get 2= .d (.bool false))
  (by
   rintro s e X ⟨rfl,g1,g16,g17,g18⟩
   simp[Yl,-List.getD_eq_getElem?_getD,-List.map_map,Sm,g1,g16,g17,g18])
  (by
   rintro i s e X hi ⟨rfl,g1,g16,g17,g18⟩
   have c: (i:Int)< (b.ents.length:Int):=by have:=hi;omega
   have g:=Ja b.ents i hi
   have p:=Bb (cl:=ev R) fun H=>B6d H (b.ents.getD i default) (hf.each _ (Gr hi))
   have w1:IntKind.i64.wrap ((i:Int)+1)=((i+1:Nat):Int):=by rw[IntWalk.i64_in _ (by have:=hf.len;omega)];rfl
   have w2:0<i→IntKind.i64.wrap ((i:Int) - 1)=((i - 1:Nat):Int):=fun h4=>by rw[IntWalk.i64_in _ (by have:=hf.len;omega)];omega
   have gp:=fun h:0<i=>Ja b.ents (i - 1) (by omega)
   unfold Pt
   by_cases h1:Gn (b.ents.getD i default)=true
   ·rw[h1] at p
    by_cases h4:0<i
    ·have w2:=w2 h4
     have gp:=gp h4
     have c3:i - 1<b.ents.length:=by omega
     have c4: (0:Int)< (i:Int):=by omega
     have c7: ¬i=0:=by omega
     generalize b.ents.getD i default=E at*
     generalize b.ents.getD (i - 1) default=E0 at*
     unfold Ye
     rw[h1]
     obtain⟨x,hx⟩: ∃x,Op.bytesLess E0.key E.key=x:=⟨_,rfl⟩
     cases x
     ·simp[Yl,-List.getD_eq_getElem?_getD,-List.map_map,Sm,g1,g16,g17,g18,c,c3,c4,c7,h4,hi,g,gp,p,w2,hx]
     ·by_cases h2:E.till=0
      ·have h2:=eq_true h2
       simp[Yl,-List.getD_eq_getElem?_getD,-List.map_map,Sm,g1,g16,g17,g18,c,c3,c4,c7,h4,hi,g,gp,p,h2,w1,w2,hx]
      ·by_cases h3:E.till≤b.now
       ·simp[Yl,-List.getD_eq_getElem?_getD,-List.map_map,Sm,g1,g16,g17,g18,c,c3,c4,c7,h4,hi,g,gp,p,h2,h3,w1,w2,hx]
       ·simp[Yl,-List.getD_eq_getElem?_getD,-List.map_map,Sm,g1,g16,g17,g18,c,c3,c4,c7,h4,hi,g,gp,p,h2,h3,w1,w2,hx]
    ·have c4: ¬ (0:Int)< (i:Int):=by omega
     have c6: (i=0)=True:=eq_true (by omega)
     generalize b.ents.getD i default=E at*
     generalize b.ents.getD (i - 1) default=E0 at*
     unfold Ye
     rw[h1]
     by_cases h2:E.till=0
     ·have h2:=eq_true h2
      simp[Yl,-List.getD_eq_getElem?_getD,-List.map_map,Sm,g1,g16,g17,g18,c,c4,c6,h4,hi,g,p,h2,w1]
     ·by_cases h3:E.till≤b.now
      ·simp[Yl,-List.getD_eq_getElem?_getD,-List.map_map,Sm,g1,g16,g17,g18,c,c4,c6,h4,hi,g,p,h2,h3,w1]
      ·simp[Yl,-List.getD_eq_getElem?_getD,-List.map_map,Sm,g1,g16,g17,g18,c,c4,c6,h4,hi,g,p,h2,h3,w1]
   ·rw[Bool.not_eq_true] at h1
    rw[h1] at p
    generalize b.ents.getD i default=E at*
    unfold Ye
    rw[h1]
    simp[Yl,-List.getD_eq_getElem?_getD,-List.map_map,Sm,g1,g16,g17,g18,c,hi,g,p])
  b.ents.length 0 () [(1, .ptr (Bc H) 0 0 0),(16, .d (Lf b.ents)),(17, .d (.int .i64 b.ents.length)),(18, .d (.int .i64 0))] (ap H [.row 0 2 [.d (Df b)]]) (by omega) ⟨rfl,rfl,rfl,rfl,rfl⟩
 rw[Bck] at key
 obtain⟨o,e',X',he,hq⟩:=key.out
 have p1:=Bb6 b.now 0 1000000
 unfold Jo
 obtain⟨x,hx⟩: ∃x,(decide (b.now≥0) &&decide (b.now≤1000000))=x:=⟨_,rfl⟩
 rw[hx] at p1
 have hx': (decide (0≤b.now) &&decide (b.now≤1000000))=x:=hx
 rw[hx']
 cases x
 ·simp[Yl,-List.getD_eq_getElem?_getD,-List.map_map,f24,p1]
 ·by_cases n2:b.ents.length≤12
  ·have n3: ¬ (12:Int)< (b.ents.length:Int):=by omega
   have n4: ¬12<b.ents.length:=by omega
   by_cases h:D9 (Pt b) b.ents.length 0=true
   ·rw[if_pos h] at hq
    obtain⟨rfl,tk,g2⟩:=hq
    simp[Yl,-List.getD_eq_getElem?_getD,-List.map_map,f24,p1,n2,n3,n4,he,tk,g2,h]
   ·rw[if_neg h] at hq
    obtain⟨rfl,rfl⟩:=hq
    simp[Yl,-List.getD_eq_getElem?_getD,-List.map_map,f24,p1,n2,n3,n4,he,h]
  ·have n3: (12:Int)< (b.ents.length:Int):=by omega
   have n4:12<b.ents.length:=by omega
   simp[Yl,-List.getD_eq_getElem?_getD,-List.map_map,f24,p1,n2,n3,n4]
def Tk (now:Int) (e:En):Bool:=decide (e.till=0) ||decide (now<e.till)
def Bh4 (b:Ba) (n:Int):Ba:=⟨b.now+n,b.ents.filter (Tk (b.now+n))⟩
def X5 (b:Ba) (n:Int):Ba:=if Jo b=true then(if 0≤n∧n≤1000000 - b.now then Bh4 b n else b) else⟨0,[]⟩
theorem B4m (b:Ba) (n:Int) (hb:BaSm b) (h1: -1000000000≤b.now∧b.now≤1000000000) (h2: -1000000000≤n∧n≤1000000000):Be (ev R) 172 [.d (Df b), .d (.int .i64 n)]=some (.d (Df (Bh4 b n))):=Bb fun H=>by
 refine Bh (fn:=f172) rfl rfl ?_
 have hbl:=hb.len
 unfold Bh4
 obtain⟨N,hN⟩: ∃N,b.now+n=N:=⟨_,rfl⟩
 have w:IntKind.i64.wrap (b.now+n)=N:=by rw[IntWalk.i64_in _ (by omega),hN]
 rw[hN]
 obtain⟨o,e',X',he,rfl,rfl,g4,g5⟩:=(C8 (F:=Bp (ev R) R.glob (Bc H) Bg Qf) (lv:=[2,4,5,6]) b.ents.length
  (fun i e X=>X=ap H (cpH b N ((b.ents.take i).filter (Tk N)) H)∧e.get 2= .ptr (Bc H) 0 0 0∧e.get 4= .ptr (Bc H+1) 0 0 0∧e.get 5= .ptr (Bc H+2) 0 0 0∧e.get 6= .d (.int .i64 i))
  (fun o e X=>o= .exit 0∧X=ap H (cpH b N (b.ents.filter (Tk N)) H)∧e.get 4= .ptr (Bc H+1) 0 0 0∧e.get 5= .ptr (Bc H+2) 0 0 0)
  (by
   rintro e X ⟨rfl,g2,g4,g5,g6⟩
   rw[List.take_length]
   cases hz:b.ents.filter (Tk N) with
   |nil=>simp(maxSteps:=1000000) [Ce,-List.getD_eq_getElem?_getD,-List.map_map,Qf,g2,g4,g5,g6,cpH]
   |cons z r=>simp(maxSteps:=1000000) [Ce,-List.getD_eq_getElem?_getD,-List.map_map,Qf,g2,g4,g5,g6,cpH])
  (by
   rintro i e X hi ⟨rfl,g2,g4,g5,g6⟩
   have c: (i:Int)< (b.ents.length:Int):=by omega
   have c0: (0:Int)≤(i:Int):=by omega
   have g:=Ja b.ents i hi
   have p:=Bwn (b.ents.getD i default) (hb.each _ (Gr hi))
   have w1:IntKind.i64.wrap ((i:Int)+1)=(i:Int)+1:=IntWalk.i64_in _ (by omega)
   rw[Pq _ b.ents i default hi]
   have hl:=Tx (Tk N) b.ents i hi
   have hs:Tk N (b.ents.getD i default)=(decide ((b.ents.getD i default).till=0) ||decide (N< (b.ents.getD i default).till)):=rfl
   generalize b.ents.getD i default=x at*
   generalize(b.ents.take i).filter (Tk N)=zs at*
   by_cases k:x.till=0
   ·have hs:Tk N x=true:=by rw[hs];simp[k]
    rw[hs]
    simp only[if_true]
    cases zs with
    |nil=>simp(maxSteps:=1000000) [Ce,-List.getD_eq_getElem?_getD,-List.map_map,Qf,g2,g4,g5,g6,c,c0,hi,g,p,w1,cpH,Cq,eq_true k]
    |cons z r=>
     have rm: (r.length+1+1)*120≤Cq:=by simp only[List.length_cons] at hl;unfold Cq;omega
     simp(maxSteps:=1000000) [Ce,-List.getD_eq_getElem?_getD,-List.map_map,Qf,g2,g4,g5,g6,c,c0,hi,g,p,w1,cpH,rm,eq_true k]
   ·by_cases j:N<x.till
    ·have hs:Tk N x=true:=by rw[hs];simp[j]
     rw[hs]
     simp only[if_true]
     cases zs with
     |nil=>simp(maxSteps:=1000000) [Ce,-List.getD_eq_getElem?_getD,-List.map_map,Qf,g2,g4,g5,g6,c,c0,hi,g,p,w1,cpH,Cq,eq_false k,eq_true j]
     |cons z r=>
      have rm: (r.length+1+1)*120≤Cq:=by simp only[List.length_cons] at hl;unfold Cq;omega
      simp(maxSteps:=1000000) [Ce,-List.getD_eq_getElem?_getD,-List.map_map,Qf,g2,g4,g5,g6,c,c0,hi,g,p,w1,cpH,rm,eq_false k,eq_true j]
    ·have hs:Tk N x=false:=by rw[hs];simp[k,j]
     rw[hs]
     simp only[Bool.false_eq_true,if_false,List.append_nil]
     cases zs with
     |nil=>simp(maxSteps:=1000000) [Ce,-List.getD_eq_getElem?_getD,-List.map_map,Qf,g2,g4,g5,g6,c,c0,hi,g,w1,cpH,eq_false k,eq_false j]
     |cons z r=>simp(maxSteps:=1000000) [Ce,-List.getD_eq_getElem?_getD,-List.map_map,Qf,g2,g4,g5,g6,c,c0,hi,g,w1,cpH,eq_false k,eq_false j])
  b.ents.length 0 [(2, .ptr (Bc H) 0 0 0),(4, .ptr (Bc H+1) 0 0 0),(5, .ptr (Bc H+2) 0 0 0),(6, .d (.int .i64 0))] (ap H (cpH b N [] H)) (by omega) ⟨rfl,rfl,rfl,rfl,rfl⟩).out
 cases hz:b.ents.filter (Tk N) with
 |nil=>
  rw[hz] at he
  simp only[cpH] at he
  simp(maxSteps:=1000000) [Ce,-List.getD_eq_getElem?_getD,-List.map_map,f172,w,he,g4,g5,Fx,hz,cpH]
 |cons z r=>
  rw[hz] at he
  simp only[cpH] at he
  simp(maxSteps:=1000000) [Ce,-List.getD_eq_getElem?_getD,-List.map_map,f172,w,he,g4,g5,hz,cpH]
  rfl
theorem Bwu {b:Ba} (h:BaG b) {n:Int} (h2:0≤b.now+n∧b.now+n≤2000000):BaG (Bh4 b n):=
 ⟨Nat.le_trans (List.length_filter_le _ _) h.len,fun e he=>h.each e (List.mem_filter.1 he).1,h2⟩
theorem Ban {b:Ba} (h:BaG b) (n:Int):BaG (X5 b n):=by
 unfold X5
 split
 ·split
  ·exact Bwu h (by have:=h.now;omega)
  ·exact h
 ·exact⟨by simp,by simp,by simp⟩
theorem B8n (b:Ba) (n:Int) (hb:BaSm b) (hf:BaFit b) (h1: -1000000000≤b.now∧b.now≤1000000000) (h2: -1000000000≤n∧n≤1000000000):Be (ev R) 66 [.d (Df b), .d (.int .i64 n)]=some (.d (Df (X5 b n))):=Bb fun H=>by
 refine Bh (fn:=f66) rfl rfl ?_
 have p0:=Bn8 b hb.len hb.each
 have z0:=Bya b
 have t0:=Bxf b
 have p1:=Bzz b hf
 have p2:=Ps n 0 (1000000 - b.now)
 have p3:=B4m b n hb h1 h2
 have w:IntKind.i64.wrap (1000000 - b.now)=1000000 - b.now:=IntWalk.i64_in _ (by omega)
 unfold X5
 generalize Bh4 b n=T at*
 cases hk:Jo b with
 |false=>rw[hk] at p1;simp(maxSteps:=1000000) [Ce,-List.getD_eq_getElem?_getD,-List.map_map,f66,p1,Fx]
 |true=>
  rw[hk] at p1
  by_cases a:0≤n
  ·by_cases c:n≤1000000 - b.now
   ·simp(maxSteps:=1000000) [Ce,-List.getD_eq_getElem?_getD,-List.map_map,f66,p0, ↓z0, ↓t0,p1,p2,p3,w,eq_true a,eq_true c]
   ·simp(maxSteps:=1000000) [Ce,-List.getD_eq_getElem?_getD,-List.map_map,f66,p0, ↓z0, ↓t0,p1,p2,p3,w,eq_true a,eq_false c]
  ·simp(maxSteps:=1000000) [Ce,-List.getD_eq_getElem?_getD,-List.map_map,f66,p0, ↓z0, ↓t0,p1,p2,p3,w,eq_false a]
theorem Bag: ∀ (x y:Bq),Op.bytesLess x y=decide (x<y)
 | [],[]=>by decide
 | [],_::_=>by simp[Op.bytesLess]
 |_::_,[]=>by simp[Op.bytesLess]
 |a::x,c::y=>by
  simp only[Op.bytesLess,Bag x y,List.cons_lt_cons_iff]
  by_cases h1:a<c
  ·simp[h1]
  ·by_cases h2:a=c
   ·subst h2;simp
   ·simp[h1,h2]
theorem Pj {x y z:Bq} (h1:Op.bytesLess x y=true) (h2:Op.bytesLess y z=true):Op.bytesLess x z=true:=by
 rw[Bag,decide_eq_true_eq] at*
 exact List.lt_trans h1 h2
theorem G8 (x:Bq):Op.bytesLess x x=false:=by
 rw[Bag,decide_eq_false_iff_not]
 exact List.lt_irrefl x
theorem Bbn {x y:Bq} (h1:Op.bytesLess x y=false) (h2: ¬x=y):Op.bytesLess y x=true:=by
 rw[Bag] at*
 rw[decide_eq_false_iff_not] at h1
 rw[decide_eq_true_eq]
 have h3:=List.not_lt.1 h1
 rcases List.le_iff_lt_or_eq.1 h3 with h|h
 ·exact h
 ·exact absurd h.symm h2
def Byk (now:Int) (e:En):Prop:=e.till=0∨now<e.till
structure BaO (b:Ba):Prop where
 now:0≤b.now∧b.now≤1000000
 len:b.ents.length≤12
 each: ∀e∈b.ents,Gn e=true∧Byk b.now e
 asc:b.ents.Pairwise fun a c=>Op.bytesLess a.key c.key=true
theorem Bau: ∀ (es:List En),(∀i,0<i→i<es.length→Op.bytesLess (es.getD (i - 1) default).key (es.getD i default).key=true)→es.Pairwise fun a c=>Op.bytesLess a.key c.key=true
 | [],_=>List.Pairwise.nil
 | [x],_=>List.pairwise_singleton _ _
 |x::y::r,h=>by
  have ih:=Bau (y::r) fun i h1 h2=>by
   have:=h (i+1) (by omega) (by simp only[List.length_cons] at h2⊢;omega)
   have e1: (x::y::r).getD (i+1 - 1) default=(y::r).getD (i - 1) default:=by
    obtain⟨j,rfl⟩: ∃j,i=j+1:=⟨i - 1,by omega⟩
    rfl
   rw[e1] at this
   exact this
  have hxy:Op.bytesLess x.key y.key=true:=h 1 (by omega) (by simp)
  refine List.Pairwise.cons (fun z hz=> ?_) ih
  rcases List.mem_cons.1 hz with rfl|hz
  ·exact hxy
  ·exact Pj hxy (List.rel_of_pairwise_cons ih hz)
theorem Bkx {es:List En} (h:es.Pairwise fun a c=>Op.bytesLess a.key c.key=true) (i:Nat) (h0:0<i) (hi:i<es.length):Op.bytesLess (es.getD (i - 1) default).key (es.getD i default).key=true:=by
 have:=(List.pairwise_iff_getElem.1 h) (i - 1) i (by omega) hi (by omega)
 simpa[List.getD_eq_getElem?_getD,List.getElem?_eq_getElem hi,List.getElem?_eq_getElem (show i - 1<es.length by omega)] using this
theorem F6 (b:Ba):Jo b=true↔BaO b:=by
 unfold Jo
 simp only[Bool.and_eq_true,Bool.not_eq_true',decide_eq_true_eq]
 constructor
 ·rintro⟨h1,⟨h2,h3⟩,h4⟩
  have hb:=fun i (hi:i<b.ents.length)=>Qt h1 i (Nat.zero_le i) (by omega)
  refine⟨⟨h2,h3⟩,h4,Nn default fun i hi=> ?_,Bau _ fun i h0 hi=> ?_⟩
  ·have:=hb i hi
   unfold Pt Ye at this
   simp only[Bool.or_eq_false_iff,Bool.not_eq_false',Bool.and_eq_false_iff,decide_eq_false_iff_not] at this
   refine⟨this.1.1, ?_⟩
   unfold Byk
   rcases this.1.2 with h|h
   ·exact .inl (Decidable.not_not.1 h)
   ·exact .inr (by omega)
  ·have:=hb i hi
   unfold Pt Ye at this
   simp only[Bool.or_eq_false_iff,Bool.not_eq_false',Bool.and_eq_false_iff,decide_eq_false_iff_not] at this
   rcases this.2 with h|h
   ·omega
   ·exact h
 ·intro h
  refine⟨Bl6 fun i _ hi=> ?_,h.now,h.len⟩
  have hi:i<b.ents.length:=by omega
  have he:=h.each _ (Gr hi:b.ents.getD i default∈b.ents)
  unfold Pt Ye
  rw[he.1]
  have h2: (decide ((b.ents.getD i default).till≠0) &&decide ((b.ents.getD i default).till≤b.now))=false:=by
   rw[Bool.and_eq_false_iff,decide_eq_false_iff_not,decide_eq_false_iff_not]
   rcases he.2 with h|h
   ·exact .inl (fun hn=>hn h)
   ·exact .inr (by omega)
  rw[h2]
  by_cases h0:0<i
  ·rw[Bkx h.asc i h0 hi];simp
  ·simp[h0]
theorem BaO.g {b:Ba} (h:BaO b):BaG b:=⟨h.len,fun e he=> (h.each e he).1,by have:=h.now;omega⟩
theorem B1n (H:Hp) (xs:List Bq) (hx:xs.length≤1000000):ev R 35 [.d (Bf xs)] H=some (.slc (Bc H) 0 0 xs.length,ap H [.row 0 1 ((xs.map D.str).map V.d)]):=by
 refine Bh (fn:=f35) rfl rfl ?_
 have r:xs.length*16≤Cq:=by unfold Cq;omega
 simp[Ci,-List.getD_eq_getElem?_getD,-List.map_map,f35,Bf,r,Uq]
theorem B5a (xs:List Bq) (hx:xs.length≤1000000):Gf (ev R) 35 [.d (Bf xs)]=some (.d (Bf xs)):=by
 refine Jk fun H=> ⟨_,_,B1n H xs hx, ?_,Lh H _⟩
 simp[Ci,-List.getD_eq_getElem?_getD,-List.map_map,Bf]
theorem Byz (xs:List Bq) (hx:xs.length≤1000000):Be (ev R) 35 [.d (Bf xs)]=none:=by
 cases h:Be (ev R) 35 [.d (Bf xs)] with
 |none=>rfl
 |some v=>
  have h1:=Dp h []
  rw[B1n [] xs hx] at h1
  simp[ap] at h1
theorem B1r (H:Hp) (xs:List Sc) (hx:xs.length≤1000000):ev R 50 [.d (De xs)] H=some (.slc (Bc H) 0 0 xs.length,ap H [.row 0 2 ((xs.map Kk).map V.d)]):=by
 refine Bh (fn:=f50) rfl rfl ?_
 have r:xs.length*24≤Cq:=by unfold Cq;omega
 simp[Ci,-List.getD_eq_getElem?_getD,-List.map_map,f50,r,Uq]
theorem B8i (xs:List Sc) (hx:xs.length≤1000000):Gf (ev R) 50 [.d (De xs)]=some (.d (De xs)):=by
 refine Jk fun H=> ⟨_,_,B1r H xs hx, ?_,Lh H _⟩
 simp[Ci,-List.getD_eq_getElem?_getD,-List.map_map]
theorem B5b (xs:List Sc) (hx:xs.length≤1000000):Be (ev R) 50 [.d (De xs)]=none:=by
 cases h:Be (ev R) 50 [.d (De xs)] with
 |none=>rfl
 |some v=>
  have h1:=Dp h []
  rw[B1r [] xs hx] at h1
  simp[ap] at h1
theorem B1s (H:Hp) (xs:List Pr) (hx:xs.length≤1000000):ev R 51 [.d (Ff xs)] H=some (.slc (Bc H) 0 0 xs.length,ap H [.row 0 2 ((xs.map Kz).map V.d)]):=by
 refine Bh (fn:=f51) rfl rfl ?_
 have r:xs.length*32≤Cq:=by unfold Cq;omega
 simp[Ci,-List.getD_eq_getElem?_getD,-List.map_map,f51,r,Uq]
theorem B8j (xs:List Pr) (hx:xs.length≤1000000):Gf (ev R) 51 [.d (Ff xs)]=some (.d (Ff xs)):=by
 refine Jk fun H=> ⟨_,_,B1s H xs hx, ?_,Lh H _⟩
 simp[Ci,-List.getD_eq_getElem?_getD,-List.map_map]
theorem B5c (xs:List Pr) (hx:xs.length≤1000000):Be (ev R) 51 [.d (Ff xs)]=none:=by
 cases h:Be (ev R) 51 [.d (Ff xs)] with
 |none=>rfl
 |some v=>
  have h1:=Dp h []
  rw[B1s [] xs hx] at h1
  simp[ap] at h1
theorem Bwk (e:En) (h:EnSm e):Be (ev R) 25 [.d (Fy e)]=some (.d (Fy e)):=Bb fun H=>by
 refine Bh (fn:=f25) rfl rfl ?_
 obtain⟨key,till,kind,text,list,scores,fields⟩:=e
 obtain⟨h1,h2,h3⟩:=h
 dsimp only at h1 h2 h3
 have a1:=B5a list h1
 have a2:=Byz list h1
 have b1:=B8i scores h2
 have b2:=B5b scores h2
 have c1:=B8j fields h3
 have c2:=B5c fields h3
 simp[Ci,-List.getD_eq_getElem?_getD,-List.map_map,f25,a1,a2,b1,b2,c1,c2,Bf]
def cbH (b:Ba) (n:Int) (zs:List En) (H:Hp):Hp:=
 [.row 0 2 [.d (Df b)], .row 0 2 [.agg [.d (.int .i64 0), .nils 7]], .row zs.length 7 ((zs.map Fy).map V.d), .row 0 2 [.agg [.d (.int .i64 n), .slc (Bc H+2) zs.length 0 zs.length]]]
theorem Bvp (b:Ba) (hb:b.ents.length≤1000000) (h: ∀e∈b.ents,EnSm e) (H:Hp):ev R 34 [.d (Df b)] H=some (.agg [.d (.int .i64 b.now), .slc (Bc H) 0 0 b.ents.length],ap H [.row 0 7 ((b.ents.map Fy).map V.d)]):=by
 refine Bh (fn:=f34) rfl rfl ?_
 obtain⟨o,e',X',he,rfl,rfl,g2,g3⟩:=(C8 (F:=Bp (ev R) R.glob (Bc H) Bg Bbd) (lv:=[2,3,11,12,13]) b.ents.length
  (fun i e X=>X=ap H (cbH b b.now (b.ents.take i) H)∧e.get 2= .ptr (Bc H+1) 0 0 0∧e.get 3= .ptr (Bc H+3) 0 0 0∧e.get 11= .d (Lf b.ents)∧e.get 12= .d (.int .i64 b.ents.length)∧e.get 13= .d (.int .i64 i))
  (fun o e X=>o= .exit 0∧X=ap H (cbH b b.now b.ents H)∧e.get 2= .ptr (Bc H+1) 0 0 0∧e.get 3= .ptr (Bc H+3) 0 0 0)
  (by
   rintro e X ⟨rfl,g2,g3,g11,g12,g13⟩
   rw[List.take_length]
   simp(maxSteps:=1000000) [Ce,-List.getD_eq_getElem?_getD,-List.map_map,Bbd,g2,g3,g11,g12,g13,cbH])
  (by
   rintro i e X hi ⟨rfl,g2,g3,g11,g12,g13⟩
   have c: (i:Int)< (b.ents.length:Int):=by omega
   have c0: (0:Int)≤(i:Int):=by omega
   have g:=Ja b.ents i hi
   have p:=Bwk (b.ents.getD i default) (h _ (Gr hi))
   have w1:IntKind.i64.wrap ((i:Int)+1)=(i:Int)+1:=IntWalk.i64_in _ (by omega)
   have hs:=Js b.ents i default hi
   have hl: (b.ents.take i).length=i:=by rw[List.length_take];omega
   have hl2: (b.ents.take (i+1)).length=i+1:=by rw[List.length_take];omega
   have sf:List.map V.d (List.map Fy (b.ents.take i))++[V.d (Fy (b.ents.getD i default))]=List.map V.d (List.map Fy (b.ents.take (i+1))):=by rw[hs];simp
   clear hs
   generalize b.ents.getD i default=x at*
   generalize b.ents.take i=zs at*
   generalize b.ents.take (i+1)=ys at*
   have rm: (i+1)*120≤Cq:=by unfold Cq;omega
   simp(maxSteps:=1000000) [Ce,-List.getD_eq_getElem?_getD,-List.map_map,Bbd,g2,g3,g11,g12,g13,c,c0,hi,g,p,w1,cbH,rm,hl,hl2,sf])
  b.ents.length 0 [(2, .ptr (Bc H+1) 0 0 0),(3, .ptr (Bc H+3) 0 0 0),(11, .d (Lf b.ents)),(12, .d (.int .i64 b.ents.length)),(13, .d (.int .i64 0))] (ap H (cbH b b.now [] H)) (by omega) ⟨rfl,rfl,rfl,rfl,rfl,rfl⟩).out
 simp only[cbH,List.map_nil,List.length_nil] at he
 simp(maxSteps:=1000000) [Ce,-List.getD_eq_getElem?_getD,-List.map_map,f34,he,g2,g3,Uq]
theorem Bwm (b:Ba) (hb:BaSm b):Gf (ev R) 34 [.d (Df b)]=some (.d (Df b)):=by
 refine Jk fun H=> ⟨_,_,Bvp b hb.len hb.each H, ?_,Lh H _⟩
 simp[Ci,-List.getD_eq_getElem?_getD,-List.map_map]
theorem Bmz (b:Ba) (hb:BaSm b):Be (ev R) 34 [.d (Df b)]=none:=by
 cases h:Be (ev R) 34 [.d (Df b)] with
 |none=>rfl
 |some v=>
  have h1:=Dp h []
  rw[Bvp b hb.len hb.each []] at h1
  simp[ap] at h1
def Xe (p:Bq) (es:List En):List Bq:=(es.filter fun e=>Kl p e.key).map (·.key)
def Bis (b:Ba) (p:Bq):List Bq:=if Jo b=true∧p.length≤12 then Xe p b.ents else[]
theorem Bjz (p:Bq) (es:List En) (i:Nat) (hi:i<es.length):Xe p (es.take (i+1))=Xe p (es.take i)++(if Kl p (es.getD i default).key=true then[(es.getD i default).key] else[]):=by
 unfold Xe
 rw[Pq _ es i default hi,List.map_append]
 cases Kl p (es.getD i default).key<;>rfl
theorem Bob (p:Bq) (es:List En): (Xe p es).length≤es.length:=by
 unfold Xe
 rw[List.length_map]
 exact List.length_filter_le _ _
theorem B45 (b:Ba) (p:Bq) (hb:BaSm b) (hf:BaFit b) (hp:p.length≤1000000):Be (ev R) 228 [.d (Df b), .d (.str p)]=some (.d (Bf (Bis b p))):=Bb fun H=>by
 refine Bh (fn:=f228) rfl rfl ?_
 have p1:=Bzz b hf
 unfold Bis
 have hbl:=hb.len
 by_cases hg:Jo b=true∧p.length≤12
 ·rw[if_pos hg]
  rw[hg.1] at p1
  have hg2: (p.length:Int)≤12:=by have:=hg.2;omega
  have hem: ∀e∈b.ents,Gn e=true:=by
   have h:=hg.1
   unfold Jo at h
   simp only[Bool.and_eq_true,Bool.not_eq_true'] at h
   refine Nn default fun i hi=> ?_
   have:=Qt h.1 i (by omega) (by omega)
   unfold Pt Ye at this
   simp only[Bool.or_eq_false_iff,Bool.not_eq_false'] at this
   exact this.1.1
  have lp:=(C8 (F:=Bp (ev R) R.glob (Bc H) Bg Pg) (lv:=[1,2,5,6]) b.ents.length
   (fun i e X=> ∃zs:List Bq,zs=Xe p (b.ents.take i)∧X=ap H [.row 0 2 [.d (Df b)], .row zs.length 1 ((zs.map D.str).map V.d)]∧e.get 1= .d (.str p)∧e.get 2= .ptr (Bc H) 0 0 0∧e.get 5= .slc (Bc H+1) zs.length 0 zs.length∧e.get 6= .d (.int .i64 i))
   (fun o e X=> ∃zs:List Bq,zs=Xe p b.ents∧o= .exit 0∧X=ap H [.row 0 2 [.d (Df b)], .row zs.length 1 ((zs.map D.str).map V.d)]∧e.get 5= .slc (Bc H+1) zs.length 0 zs.length)
   (by
    rintro e X ⟨zs,hz,rfl,g1,g2,g5,g6⟩
    rw[List.take_length] at hz
    have key:Bp (ev R) R.glob (Bc H) Bg Pg ⟨e.keep [1,2,5,6],ap H [.row 0 2 [.d (Df b)], .row zs.length 1 ((zs.map D.str).map V.d)]⟩=some (.exit 0,⟨[(1, .d (.str p)),(2, .ptr (Bc H) 0 0 0),(5, .slc (Bc H+1) zs.length 0 zs.length),(6, .d (.int .i64 b.ents.length)),(21, .d (.bool false))],ap H [.row 0 2 [.d (Df b)], .row zs.length 1 ((zs.map D.str).map V.d)]⟩):=by
     simp(maxSteps:=1000000) [Ce,-List.getD_eq_getElem?_getD,-List.map_map,Pg,g1,g2,g5,g6]
    rw[key]
    exact⟨by simp,zs,hz,rfl,rfl,rfl⟩)
   (by
    rintro i e X hi ⟨zs,hz,rfl,g1,g2,g5,g6⟩
    have c: (i:Int)< (b.ents.length:Int):=by omega
    have c0: (0:Int)≤(i:Int):=by omega
    have g:=Ja b.ents i hi
    have hn:=Bjz p b.ents i hi
    have hl:zs.length≤i:=by rw[hz];exact Nat.le_trans (Bob _ _) (by rw[List.length_take];omega)
    rw[←hz] at hn
    have hk:=(Bez (hem _ (Gr hi:b.ents.getD i default∈b.ents))).key
    have p2:=B49 p (b.ents.getD i default).key hp (by omega)
    have w1:IntKind.i64.wrap ((i:Int)+1)=((i+1:Nat):Int):=by rw[IntWalk.i64_in _ (by omega)];rfl
    have r: (zs.length+1)*16≤Cq:=by unfold Cq;omega
    generalize b.ents.getD i default=E at*
    cases hm:Kl p E.key with
    |false=>
     rw[hm] at p2 hn
     simp only[Bool.false_eq_true,if_false,List.append_nil] at hn
     simp(maxSteps:=1000000) [Ce,-List.getD_eq_getElem?_getD,-List.map_map,Pg,g1,g2,g5,g6,c,c0,hi,g,p1,p2,hg2,w1,r,hn]
    |true=>
     rw[hm] at p2 hn
     simp only[if_true] at hn
     simp(maxSteps:=1000000) [Ce,-List.getD_eq_getElem?_getD,-List.map_map,Pg,g1,g2,g5,g6,c,c0,hi,g,p1,p2,hg2,w1,r,hn])
   b.ents.length 0 [(1, .d (.str p)),(2, .ptr (Bc H) 0 0 0),(5, .slc (Bc H+1) 0 0 0),(6, .d (.int .i64 0))] (ap H [.row 0 2 [.d (Df b)], .row 0 1 []]) (by omega) ⟨[],by simp[Xe],rfl,rfl,rfl,rfl,rfl⟩).out
  obtain⟨o,e',X',he,zs,hz,rfl,rfl,g5⟩:=lp
  rw[←hz]
  have ft:List.take zs.length ((zs.map D.str).map V.d)=(zs.map D.str).map V.d:=List.take_of_length_le (by simp)
  simp(maxSteps:=1000000) [Ce,-List.getD_eq_getElem?_getD,-List.map_map,f228,he,g5,ft]
 ·rw[if_neg hg]
  have st:Bp (ev R) R.glob (Bc H) Bg Pg ⟨Env.keep [(1, .d (.str p)),(2, .ptr (Bc H) 0 0 0),(5, .slc (Bc H+1) 0 0 0),(6, .d (.int .i64 0))] [1,2,5,6],ap H [.row 0 2 [.d (Df b)], .row 0 1 []]⟩=some (.exit 0,⟨[(1, .d (.str p)),(2, .ptr (Bc H) 0 0 0),(5, .slc (Bc H+1) 0 0 0),(6, .d (.int .i64 0)),(21, .d (.bool false))],ap H [.row 0 2 [.d (Df b)], .row 0 1 []]⟩):=by
   by_cases h0:b.ents.length=0
   ·have h0': ¬ (0:Int)< (b.ents.length:Int):=by omega
    have h0'':b.ents=[]:=List.eq_nil_of_length_eq_zero h0
    simp(maxSteps:=1000000) [Ce,-List.getD_eq_getElem?_getD,-List.map_map,Pg,h0',h0'']
   ·have h0': (0:Int)< (b.ents.length:Int):=by omega
    have h0'':b.ents≠[]:=fun h=>h0 (by rw[h];rfl)
    have h0''':0<b.ents.length:=by omega
    cases hk:Jo b with
    |false=>rw[hk] at p1;simp(maxSteps:=1000000) [Ce,-List.getD_eq_getElem?_getD,-List.map_map,Pg,h0',h0'',h0''',p1]
    |true=>
     rw[hk] at p1
     have hp2: ¬ (p.length:Int)≤12:=fun h=>hg ⟨hk,by omega⟩
     simp(maxSteps:=1000000) [Ce,-List.getD_eq_getElem?_getD,-List.map_map,Pg,h0',h0'',h0''',p1,hp2]
  have he:=Gg (F:=Bp (ev R) R.glob (Bc H) Bg Pg) (lv:=[1,2,5,6]) (st:=⟨[(1, .d (.str p)),(2, .ptr (Bc H) 0 0 0),(5, .slc (Bc H+1) 0 0 0),(6, .d (.int .i64 0))],ap H [.row 0 2 [.d (Df b)], .row 0 1 []]⟩) st (by simp)
  simp(maxSteps:=1000000) [Ce,-List.getD_eq_getElem?_getD,-List.map_map,f228,he]
end Go.Proofs.YtpajcoanfkeibaaGreatDoor.Code

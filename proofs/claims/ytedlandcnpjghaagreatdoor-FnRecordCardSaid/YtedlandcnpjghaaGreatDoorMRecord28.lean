/- Lemmas (several texts in one). -/
import Derived.Test.YtedlandcnpjghaaGreatDoorMRecord7
import Derived.Test.YtedlandcnpjghaaGreatDoorMRecord15
import Derived.Test.YtedlandcnpjghaaGreatDoorMRecord19
import Derived.Test.YtedlandcnpjghaaGreatDoorMRecord24
set_option maxRecDepth 100000
set_option maxHeartbeats 2000000
set_option linter.unusedSimpArgs false
set_option linter.unusedVariables false
namespace Go.Proofs.YtedlandcnpjghaaGreatDoor.Code
open Go Go.Ev Go.Proofs
def Bjt (now:Int) (i:Nat) (p e:En):Bool:= !Kw e|| (decide (e.till≠0) &&decide (e.till≤now)) || (decide (0<i) && !Op.bytesLess p.key e.key)
def Zi (b:Ba) (i:Nat):Bool:=Bjt b.now i (b.ents.getD (i - 1) default) (b.ents.getD i default)
def Sa (b:Ba):Bool:= !Jb (Zi b) b.ents.length 0&& (decide (0≤b.now) &&decide (b.now≤1000000) &&decide (b.ents.length≤12))
theorem Bis (p:Nat→Bool): ∀ (n i:Nat),Bsv (fun i (_:Unit)=>if p i=true then(.inr ():Unit ⊕ Unit) else .inl ()) n i ()=if Jb p n i=true then .inr () else .inl ()
 |0,i=>rfl
 |n+1,i=>by
  simp only[Bsv,Jb]
  by_cases h:p i=true
  ·simp[h]
  ·simp only[h,if_false,Bool.false_or]
   exact Bis p n (i+1)
theorem Bnj (now:Int) (i:Nat) (p e:En) {C:Prop} (k1:Kw e=false→Bjt now i p e=true→C)
  (k2:Kw e=true→e.till≠0→e.till≤now→Bjt now i p e=true→C)
  (k3:Kw e=true→(e.till=0∨(e.till≠0∧¬e.till≤now))→i=0→Bjt now i p e=false→C)
  (k4:Kw e=true→(e.till=0∨(e.till≠0∧¬e.till≤now))→0<i→(∃x,Op.bytesLess p.key e.key=x∧Bjt now i p e= !x)→C):C:=by
 unfold Bjt at*
 by_cases h1:Kw e=true
 ·by_cases h2:e.till=0
  ·by_cases h4:i=0
   ·exact k3 h1 (.inl h2) h4 (by simp[h1,h2,h4])
   ·exact k4 h1 (.inl h2) (by omega) ⟨_,rfl,by simp[h1,h2,show 0<i by omega]⟩
  ·by_cases h3:e.till≤now
   ·exact k2 h1 h2 h3 (by simp[h1,h2,h3])
   ·by_cases h4:i=0
    ·exact k3 h1 (.inr ⟨h2,h3⟩) h4 (by simp[h1,h2,h3,h4])
    ·exact k4 h1 (.inr ⟨h2,h3⟩) (by omega) ⟨_,rfl,by simp[h1,h2,h3,show 0<i by omega]⟩
 ·exact k1 (by simpa using h1) (by simp[h1])
theorem Bju (b:Ba) (i:Nat) {C:Prop} (k1:Kw (b.ents.getD i default)=false→Zi b i=true→C)
  (k2:Kw (b.ents.getD i default)=true→(b.ents.getD i default).till≠0→(b.ents.getD i default).till≤b.now→Zi b i=true→C)
  (k3:Kw (b.ents.getD i default)=true→((b.ents.getD i default).till=0∨((b.ents.getD i default).till≠0∧¬ (b.ents.getD i default).till≤b.now))→i=0→Zi b i=false→C)
  (k4:Kw (b.ents.getD i default)=true→((b.ents.getD i default).till=0∨((b.ents.getD i default).till≠0∧¬ (b.ents.getD i default).till≤b.now))→0<i→(∃x,Op.bytesLess (b.ents.getD (i - 1) default).key (b.ents.getD i default).key=x∧Zi b i= !x)→C):C:=
 Bnj _ _ _ _ k1 k2 k3 k4
theorem B2p (b:Ba) (hf:BaFit b):Be (ev R) 66 [.d (D6 b)]=some (.d (.bool (Sa b))):=Bb fun H=>by
 refine Bo (fn:=f66) rfl rfl ?_
 have bx:1≤b.ents.length→0≤b.ents.length:=fun _=>Nat.zero_le _
 have key:=Bhm (F:=Bp (ev R) R.glob (Bc H) Bg Sk) (lv:=[1,3]) (fun i (_:Unit)=>if Zi b i=true then(.inr ():Unit ⊕ Unit) else .inl ()) b.ents.length
  (fun i _ e X=>X=ap H [.row 0 2 [.d (D6 b)]]∧e.get 1= .ptr (Bc H) 0 0 0∧e.get 3= .d (.int .i64 i))
  (fun _ o e X=>o= .exit 0∧X=ap H [.row 0 2 [.d (D6 b)]]∧e.get 1= .ptr (Bc H) 0 0 0) (fun _ o e X=>o= .ret∧Du X (Bc H)=H∧e.get 2= .d (.bool false))
  (by
   rintro s e X ⟨rfl,g1,g3⟩
   simp[evB,-List.getD_eq_getElem?_getD,-List.map_map,Sk,g1,g3])
  (by
   rintro i s e X hi ⟨rfl,g1,g3⟩
   have c: (i:Int)< (b.ents.length:Int):=by have:=hi;omega
   have g:=M3 b.ents i hi
   have p:=Bb (cl:=ev R) fun H=>B07 H (b.ents.getD i default) (hf.each _ (Mm hi))
   have w1:IntKind.i64.wrap ((i:Int)+1)=((i+1:Nat):Int):=by rw[IntWalk.i64_in _ (by have:=hf.len;omega)];rfl
   refine Bju b i ?_ ?_ ?_ ?_
   ·intro h1 hb
    rw[hb]
    rw[h1] at p
    simp[evB,-List.getD_eq_getElem?_getD,-List.map_map,Sk,g1,g3,c,hi,g,p]
   ·intro h1 h2 h3 hb
    rw[hb]
    rw[h1] at p
    simp[evB,-List.getD_eq_getElem?_getD,-List.map_map,Sk,g1,g3,c,hi,g,p,h2,h3]
   ·intro h1 h2 h4 hb
    rw[hb]
    rw[h1] at p
    have c4: ¬ (0:Int)< (i:Int):=by omega
    have c5: ¬0<i:=by omega
    have c6:=eq_true h4
    rcases h2 with h2| ⟨h2,h3⟩
    ·have h2:=eq_true h2
     simp[evB,-List.getD_eq_getElem?_getD,-List.map_map,Sk,g1,g3,c,c4,c5,c6,hi,g,p,h2,w1]
    ·simp[evB,-List.getD_eq_getElem?_getD,-List.map_map,Sk,g1,g3,c,c4,c5,c6,hi,g,p,h2,h3,w1]
   ·rintro h1 h2 h4 ⟨x,hx,hb⟩
    rw[hb]
    rw[h1] at p
    have w2:IntKind.i64.wrap ((i:Int) - 1)=((i - 1:Nat):Int):=by rw[IntWalk.i64_in _ (by have:=hf.len;omega)];omega
    have gp:=M3 b.ents (i - 1) (by omega)
    have c3:i - 1<b.ents.length:=by omega
    have c4: (0:Int)< (i:Int):=by omega
    have c7: ¬i=0:=by omega
    cases x<;>rcases h2 with h2| ⟨h2,h3⟩
    ·have h2:=eq_true h2
     simp[evB,-List.getD_eq_getElem?_getD,-List.map_map,Sk,g1,g3,c,c3,c4,c7,h4,hi,g,gp,p,h2,w2,hx]
    ·simp[evB,-List.getD_eq_getElem?_getD,-List.map_map,Sk,g1,g3,c,c3,c4,c7,h4,hi,g,gp,p,h2,h3,w2,hx]
    ·have h2:=eq_true h2
     simp[evB,-List.getD_eq_getElem?_getD,-List.map_map,Sk,g1,g3,c,c3,c4,c7,h4,hi,g,gp,p,h2,w1,w2,hx]
    ·simp[evB,-List.getD_eq_getElem?_getD,-List.map_map,Sk,g1,g3,c,c3,c4,h4,hi,g,gp,p,h2,h3,w1,w2,hx])
  b.ents.length 0 () [(1, .ptr (Bc H) 0 0 0),(3, .d (.int .i64 0))] (ap H [.row 0 2 [.d (D6 b)]]) (by omega) ⟨rfl,rfl,rfl⟩
 rw[Bis] at key
 obtain⟨o,e',X',he,hq⟩:=key.out
 have p1:=Pi b.now 0 1000000
 unfold Sa
 by_cases h:Jb (Zi b) b.ents.length 0=true
 ·rw[if_pos h] at hq
  obtain⟨rfl,tk,g2⟩:=hq
  simp[evB,-List.getD_eq_getElem?_getD,-List.map_map,f66,he,tk,g2,h]
 ·rw[if_neg h] at hq
  obtain⟨rfl,rfl,g1⟩:=hq
  obtain⟨x,hx⟩: ∃x,(decide (b.now≥0) &&decide (b.now≤1000000))=x:=⟨_,rfl⟩
  rw[hx] at p1
  have hx': (decide (0≤b.now) &&decide (b.now≤1000000))=x:=hx
  rw[hx']
  cases x
  ·simp[evB,-List.getD_eq_getElem?_getD,-List.map_map,f66,he,g1,h,p1]
  ·by_cases n2:b.ents.length≤12
   ·have n3: (b.ents.length:Int)≤12:=by omega
    simp[evB,-List.getD_eq_getElem?_getD,-List.map_map,f66,he,g1,h,p1,n2,n3]
   ·have n3: ¬ (b.ents.length:Int)≤12:=by omega
    simp[evB,-List.getD_eq_getElem?_getD,-List.map_map,f66,he,g1,h,p1,n2,n3]
def Xl (p:Bl) (es:List En):List Bl:=(es.filter fun e=>Ki p e.key).map (·.key)
def Bi6 (b:Ba) (p:Bl):List Bl:=if Sa b=true∧p.length≤12 then Xl p b.ents else[]
theorem Bj5 (p:Bl) (es:List En) (i:Nat) (hi:i<es.length):Xl p (es.take (i+1))=Xl p (es.take i)++(if Ki p (es.getD i default).key=true then[(es.getD i default).key] else[]):=by
 unfold Xl
 rw[Pt _ es i default hi,List.map_append]
 cases Ki p (es.getD i default).key<;>rfl
theorem Bn0 (p:Bl) (es:List En): (Xl p es).length≤es.length:=by
 unfold Xl
 rw[List.length_map]
 exact List.length_filter_le _ _
theorem B2j (b:Ba) (p:Bl) (hb:BaSm b) (hf:BaFit b) (hp:p.length≤1000000):Be (ev R) 111 [.d (D6 b), .d (.str p)]=some (.d (Bf (Bi6 b p))):=Bb fun H=>by
 refine Bo (fn:=f111) rfl rfl ?_
 have p1:=B2p b hf
 unfold Bi6
 have hbl:=hb.len
 by_cases hg:Sa b=true∧p.length≤12
 ·rw[if_pos hg]
  rw[hg.1] at p1
  have hg2: (p.length:Int)≤12:=by have:=hg.2;omega
  have hem: ∀e∈b.ents,Kw e=true:=by
   have h:=hg.1
   unfold Sa at h
   simp only[Bool.and_eq_true,Bool.not_eq_true'] at h
   refine Rf default fun i hi=> ?_
   have:=Tv h.1 i (by omega) (by omega)
   unfold Zi Bjt at this
   simp only[Bool.or_eq_false_iff,Bool.not_eq_false'] at this
   exact this.1.1
  have lp:=(Dw (F:=Bp (ev R) R.glob (Bc H) Bg Pd) (lv:=[1,2,5,6]) b.ents.length
   (fun i e X=> ∃zs:List Bl,zs=Xl p (b.ents.take i)∧X=ap H [.row 0 2 [.d (D6 b)], .row zs.length 1 ((zs.map D.str).map V.d)]∧e.get 1= .d (.str p)∧e.get 2= .ptr (Bc H) 0 0 0∧e.get 5= .slc (Bc H+1) zs.length 0 zs.length∧e.get 6= .d (.int .i64 i))
   (fun o e X=> ∃zs:List Bl,zs=Xl p b.ents∧o= .exit 0∧X=ap H [.row 0 2 [.d (D6 b)], .row zs.length 1 ((zs.map D.str).map V.d)]∧e.get 5= .slc (Bc H+1) zs.length 0 zs.length)
   (by
    rintro e X ⟨zs,hz,rfl,g1,g2,g5,g6⟩
    rw[List.take_length] at hz
    have key:Bp (ev R) R.glob (Bc H) Bg Pd ⟨e.keep [1,2,5,6],ap H [.row 0 2 [.d (D6 b)], .row zs.length 1 ((zs.map D.str).map V.d)]⟩=some (.exit 0,⟨[(1, .d (.str p)),(2, .ptr (Bc H) 0 0 0),(5, .slc (Bc H+1) zs.length 0 zs.length),(6, .d (.int .i64 b.ents.length)),(21, .d (.bool false))],ap H [.row 0 2 [.d (D6 b)], .row zs.length 1 ((zs.map D.str).map V.d)]⟩):=by
     simp(maxSteps:=1000000) [Cq,-List.getD_eq_getElem?_getD,-List.map_map,Pd,g1,g2,g5,g6]
    rw[key]
    exact⟨by simp,zs,hz,rfl,rfl,rfl⟩)
   (by
    rintro i e X hi ⟨zs,hz,rfl,g1,g2,g5,g6⟩
    have c: (i:Int)< (b.ents.length:Int):=by omega
    have c0: (0:Int)≤(i:Int):=by omega
    have g:=M3 b.ents i hi
    have hn:=Bj5 p b.ents i hi
    have hl:zs.length≤i:=by rw[hz];exact Nat.le_trans (Bn0 _ _) (by rw[List.length_take];omega)
    rw[←hz] at hn
    have hk:=(Bfd (hem _ (Mm hi:b.ents.getD i default∈b.ents))).key
    have p2:=B2n p (b.ents.getD i default).key hp (by omega)
    have w1:IntKind.i64.wrap ((i:Int)+1)=((i+1:Nat):Int):=by rw[IntWalk.i64_in _ (by omega)];rfl
    have r: (zs.length+1)*16≤Cx:=by unfold Cx;omega
    generalize b.ents.getD i default=E at*
    cases hm:Ki p E.key with
    |false=>
     rw[hm] at p2 hn
     simp only[Bool.false_eq_true,if_false,List.append_nil] at hn
     simp(maxSteps:=1000000) [Cq,-List.getD_eq_getElem?_getD,-List.map_map,Pd,g1,g2,g5,g6,c,c0,hi,g,p1,p2,hg2,w1,r,hn]
    |true=>
     rw[hm] at p2 hn
     simp only[if_true] at hn
     simp(maxSteps:=1000000) [Cq,-List.getD_eq_getElem?_getD,-List.map_map,Pd,g1,g2,g5,g6,c,c0,hi,g,p1,p2,hg2,w1,r,hn])
   b.ents.length 0 [(1, .d (.str p)),(2, .ptr (Bc H) 0 0 0),(5, .slc (Bc H+1) 0 0 0),(6, .d (.int .i64 0))] (ap H [.row 0 2 [.d (D6 b)], .row 0 1 []]) (by omega) ⟨[],by simp[Xl],rfl,rfl,rfl,rfl,rfl⟩).out
  obtain⟨o,e',X',he,zs,hz,rfl,rfl,g5⟩:=lp
  rw[←hz]
  have ft:List.take zs.length ((zs.map D.str).map V.d)=(zs.map D.str).map V.d:=List.take_of_length_le (by simp)
  simp(maxSteps:=1000000) [Cq,-List.getD_eq_getElem?_getD,-List.map_map,f111,he,g5,ft]
 ·rw[if_neg hg]
  have st:Bp (ev R) R.glob (Bc H) Bg Pd ⟨Env.keep [(1, .d (.str p)),(2, .ptr (Bc H) 0 0 0),(5, .slc (Bc H+1) 0 0 0),(6, .d (.int .i64 0))] [1,2,5,6],ap H [.row 0 2 [.d (D6 b)], .row 0 1 []]⟩=some (.exit 0,⟨[(1, .d (.str p)),(2, .ptr (Bc H) 0 0 0),(5, .slc (Bc H+1) 0 0 0),(6, .d (.int .i64 0)),(21, .d (.bool false))],ap H [.row 0 2 [.d (D6 b)], .row 0 1 []]⟩):=by
   by_cases h0:b.ents.length=0
   ·have h0': ¬ (0:Int)< (b.ents.length:Int):=by omega
    have h0'':b.ents=[]:=List.eq_nil_of_length_eq_zero h0
    simp(maxSteps:=1000000) [Cq,-List.getD_eq_getElem?_getD,-List.map_map,Pd,h0',h0'']
   ·have h0': (0:Int)< (b.ents.length:Int):=by omega
    have h0'':b.ents≠[]:=fun h=>h0 (by rw[h];rfl)
    have h0''':0<b.ents.length:=by omega
    cases hk:Sa b with
    |false=>rw[hk] at p1;simp(maxSteps:=1000000) [Cq,-List.getD_eq_getElem?_getD,-List.map_map,Pd,h0',h0'',h0''',p1]
    |true=>
     rw[hk] at p1
     have hp2: ¬ (p.length:Int)≤12:=fun h=>hg ⟨hk,by omega⟩
     simp(maxSteps:=1000000) [Cq,-List.getD_eq_getElem?_getD,-List.map_map,Pd,h0',h0'',h0''',p1,hp2]
  have he:=F7 (F:=Bp (ev R) R.glob (Bc H) Bg Pd) (lv:=[1,2,5,6]) (st:=⟨[(1, .d (.str p)),(2, .ptr (Bc H) 0 0 0),(5, .slc (Bc H+1) 0 0 0),(6, .d (.int .i64 0))],ap H [.row 0 2 [.d (D6 b)], .row 0 1 []]⟩) st (by simp)
  simp(maxSteps:=1000000) [Cq,-List.getD_eq_getElem?_getD,-List.map_map,f111,he]
def Tm (now:Int) (e:En):Bool:=decide (e.till=0) ||decide (now<e.till)
def Bii (b:Ba) (n:Int):Ba:=⟨b.now+n,b.ents.filter (Tm (b.now+n))⟩
def Yi (b:Ba) (n:Int):Ba:=if Sa b=true then(if 0≤n∧n≤1000000 - b.now then Bii b n else b) else⟨0,[]⟩
theorem B54 (b:Ba) (n:Int) (hb:BaSm b) (h1: -1000000000≤b.now∧b.now≤1000000000) (h2: -1000000000≤n∧n≤1000000000):Be (ev R) 67 [.d (D6 b), .d (.int .i64 n)]=some (.d (D6 (Bii b n))):=Bb fun H=>by
 refine Bo (fn:=f67) rfl rfl ?_
 have hbl:=hb.len
 unfold Bii
 obtain⟨N,hN⟩: ∃N,b.now+n=N:=⟨_,rfl⟩
 have w:IntKind.i64.wrap (b.now+n)=N:=by rw[IntWalk.i64_in _ (by omega),hN]
 rw[hN]
 obtain⟨o,e',X',he,rfl,rfl,g4,g5⟩:=(Dw (F:=Bp (ev R) R.glob (Bc H) Bg Uv) (lv:=[2,4,5,6]) b.ents.length
  (fun i e X=>X=ap H (cpH b N ((b.ents.take i).filter (Tm N)) H)∧e.get 2= .ptr (Bc H) 0 0 0∧e.get 4= .ptr (Bc H+1) 0 0 0∧e.get 5= .ptr (Bc H+2) 0 0 0∧e.get 6= .d (.int .i64 i))
  (fun o e X=>o= .exit 0∧X=ap H (cpH b N (b.ents.filter (Tm N)) H)∧e.get 4= .ptr (Bc H+1) 0 0 0∧e.get 5= .ptr (Bc H+2) 0 0 0)
  (by
   rintro e X ⟨rfl,g2,g4,g5,g6⟩
   rw[List.take_length]
   cases hz:b.ents.filter (Tm N) with
   |nil=>simp(maxSteps:=1000000) [Cq,-List.getD_eq_getElem?_getD,-List.map_map,Uv,g2,g4,g5,g6,cpH]
   |cons z r=>simp(maxSteps:=1000000) [Cq,-List.getD_eq_getElem?_getD,-List.map_map,Uv,g2,g4,g5,g6,cpH])
  (by
   rintro i e X hi ⟨rfl,g2,g4,g5,g6⟩
   have c: (i:Int)< (b.ents.length:Int):=by omega
   have c0: (0:Int)≤(i:Int):=by omega
   have g:=M3 b.ents i hi
   have p:=Bvi (b.ents.getD i default) (hb.each _ (Mm hi))
   have w1:IntKind.i64.wrap ((i:Int)+1)=(i:Int)+1:=IntWalk.i64_in _ (by omega)
   rw[Pt _ b.ents i default hi]
   have hl:=Ub (Tm N) b.ents i hi
   have hs:Tm N (b.ents.getD i default)=(decide ((b.ents.getD i default).till=0) ||decide (N< (b.ents.getD i default).till)):=rfl
   generalize b.ents.getD i default=x at*
   generalize(b.ents.take i).filter (Tm N)=zs at*
   by_cases k:x.till=0
   ·have hs:Tm N x=true:=by rw[hs];simp[k]
    rw[hs]
    simp only[if_true]
    cases zs with
    |nil=>simp(maxSteps:=1000000) [Cq,-List.getD_eq_getElem?_getD,-List.map_map,Uv,g2,g4,g5,g6,c,c0,hi,g,p,w1,cpH,Cx,eq_true k]
    |cons z r=>
     have rm: (r.length+1+1)*120≤Cx:=by simp only[List.length_cons] at hl;unfold Cx;omega
     simp(maxSteps:=1000000) [Cq,-List.getD_eq_getElem?_getD,-List.map_map,Uv,g2,g4,g5,g6,c,c0,hi,g,p,w1,cpH,rm,eq_true k]
   ·by_cases j:N<x.till
    ·have hs:Tm N x=true:=by rw[hs];simp[j]
     rw[hs]
     simp only[if_true]
     cases zs with
     |nil=>simp(maxSteps:=1000000) [Cq,-List.getD_eq_getElem?_getD,-List.map_map,Uv,g2,g4,g5,g6,c,c0,hi,g,p,w1,cpH,Cx,eq_false k,eq_true j]
     |cons z r=>
      have rm: (r.length+1+1)*120≤Cx:=by simp only[List.length_cons] at hl;unfold Cx;omega
      simp(maxSteps:=1000000) [Cq,-List.getD_eq_getElem?_getD,-List.map_map,Uv,g2,g4,g5,g6,c,c0,hi,g,p,w1,cpH,rm,eq_false k,eq_true j]
    ·have hs:Tm N x=false:=by rw[hs];simp[k,j]
     rw[hs]
     simp only[Bool.false_eq_true,if_false,List.append_nil]
     cases zs with
     |nil=>simp(maxSteps:=1000000) [Cq,-List.getD_eq_getElem?_getD,-List.map_map,Uv,g2,g4,g5,g6,c,c0,hi,g,w1,cpH,eq_false k,eq_false j]
     |cons z r=>simp(maxSteps:=1000000) [Cq,-List.getD_eq_getElem?_getD,-List.map_map,Uv,g2,g4,g5,g6,c,c0,hi,g,w1,cpH,eq_false k,eq_false j])
  b.ents.length 0 [(2, .ptr (Bc H) 0 0 0),(4, .ptr (Bc H+1) 0 0 0),(5, .ptr (Bc H+2) 0 0 0),(6, .d (.int .i64 0))] (ap H (cpH b N [] H)) (by omega) ⟨rfl,rfl,rfl,rfl,rfl⟩).out
 cases hz:b.ents.filter (Tm N) with
 |nil=>
  rw[hz] at he
  simp only[cpH] at he
  simp(maxSteps:=1000000) [Cq,-List.getD_eq_getElem?_getD,-List.map_map,f67,w,he,g4,g5,F9,hz,cpH]
 |cons z r=>
  rw[hz] at he
  simp only[cpH] at he
  simp(maxSteps:=1000000) [Cq,-List.getD_eq_getElem?_getD,-List.map_map,f67,w,he,g4,g5,hz,cpH]
  rfl
theorem Bvm {b:Ba} (h:BaG b) {n:Int} (h2:0≤b.now+n∧b.now+n≤2000000):BaG (Bii b n):=
 ⟨Nat.le_trans (List.length_filter_le _ _) h.len,fun e he=>h.each e (List.mem_filter.1 he).1,h2⟩
theorem Ba9 {b:Ba} (h:BaG b) (n:Int):BaG (Yi b n):=by
 unfold Yi
 split
 ·split
  ·exact Bvm h (by have:=h.now;omega)
  ·exact h
 ·exact⟨by simp,by simp,by simp⟩
theorem B53 (b:Ba) (n:Int) (hb:BaSm b) (hf:BaFit b) (h1: -1000000000≤b.now∧b.now≤1000000000) (h2: -1000000000≤n∧n≤1000000000):Be (ev R) 47 [.d (D6 b), .d (.int .i64 n)]=some (.d (D6 (Yi b n))):=Bb fun H=>by
 refine Bo (fn:=f47) rfl rfl ?_
 have p0:=Bnt b hb.len hb.each
 have z0:=Bxp b
 have t0:=Bv0 b
 have p1:=B2p b hf
 have p2:=Pi n 0 (1000000 - b.now)
 have p3:=B54 b n hb h1 h2
 have w:IntKind.i64.wrap (1000000 - b.now)=1000000 - b.now:=IntWalk.i64_in _ (by omega)
 unfold Yi
 generalize Bii b n=T at*
 cases hk:Sa b with
 |false=>rw[hk] at p1;simp(maxSteps:=1000000) [Cq,-List.getD_eq_getElem?_getD,-List.map_map,f47,p1,F9]
 |true=>
  rw[hk] at p1
  by_cases a:0≤n
  ·by_cases c:n≤1000000 - b.now
   ·simp(maxSteps:=1000000) [Cq,-List.getD_eq_getElem?_getD,-List.map_map,f47,p0, ↓z0, ↓t0,p1,p2,p3,w,eq_true a,eq_true c]
   ·simp(maxSteps:=1000000) [Cq,-List.getD_eq_getElem?_getD,-List.map_map,f47,p0, ↓z0, ↓t0,p1,p2,p3,w,eq_true a,eq_false c]
  ·simp(maxSteps:=1000000) [Cq,-List.getD_eq_getElem?_getD,-List.map_map,f47,p0, ↓z0, ↓t0,p1,p2,p3,w,eq_false a]
end Go.Proofs.YtedlandcnpjghaaGreatDoor.Code

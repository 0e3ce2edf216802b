/- Lemmas (several texts in one). -/
import Derived.Test.YtjdmiodinhlchaaGreatMBasePut7
import Derived.Test.YtjdmiodinhlchaaGreatMBasePut19
import Derived.Test.YtjdmiodinhlchaaGreatMBasePut20
set_option maxRecDepth 100000
set_option maxHeartbeats 2000000
set_option linter.unusedSimpArgs false
set_option linter.unusedVariables false
namespace Go.Proofs.YtjdmiodinhlchaaGreat.Code
open Go Go.Ev Go.Proofs
def Wp (p:Bp) (es:List En):List Bp:=(es.filter fun e=>Kj p e.key).map (·.key)
def Bib (b:Ba) (p:Bp):List Bp:=if Js b=true∧p.length≤12 then Wp p b.ents else[]
theorem Bjn (p:Bp) (es:List En) (i:Nat) (hi:i<es.length):Wp p (es.take (i+1))=Wp p (es.take i)++(if Kj p (es.getD i default).key=true then[(es.getD i default).key] else[]):=by
 unfold Wp
 rw[Pf _ es i default hi,List.map_append]
 cases Kj p (es.getD i default).key<;>rfl
theorem Bnz (p:Bp) (es:List En): (Wp p es).length≤es.length:=by
 unfold Wp
 rw[List.length_map]
 exact List.length_filter_le _ _
theorem B7v (b:Ba) (p:Bp) (hb:BaSm b) (hf:BaFit b) (hp:p.length≤1000000):Be (ev R) 10 [.d (Dx b), .d (.str p)]=some (.d (Bf (Bib b p))):=Bb fun H=>by
 refine Bh (fn:=f10) rfl rfl ?_
 have p1:=Bv1 b hf
 unfold Bib
 have hbl:=hb.len
 by_cases hg:Js b=true∧p.length≤12
 ·rw[if_pos hg]
  rw[hg.1] at p1
  have hg2: (p.length:Int)≤12:=by have:=hg.2;omega
  have hem: ∀e∈b.ents,Gn e=true:=by
   have h:=hg.1
   unfold Js at h
   simp only[Bool.and_eq_true,Bool.not_eq_true'] at h
   refine Lp default fun i hi=> ?_
   have:=K4 h.1 i (by omega) (by omega)
   unfold Ph Xy at this
   simp only[Bool.or_eq_false_iff,Bool.not_eq_false'] at this
   exact this.1.1
  have lp:=(Dh (F:=Bq (ev R) R.glob (Bc H) Bg R5) (lv:=[1,2,5,6]) b.ents.length
   (fun i e X=> ∃zs:List Bp,zs=Wp p (b.ents.take i)∧X=ap H [.row 0 2 [.d (Dx b)], .row zs.length 1 ((zs.map D.str).map V.d)]∧e.get 1= .d (.str p)∧e.get 2= .ptr (Bc H) 0 0 0∧e.get 5= .slc (Bc H+1) zs.length 0 zs.length∧e.get 6= .d (.int .i64 i))
   (fun o e X=> ∃zs:List Bp,zs=Wp p b.ents∧o= .exit 0∧X=ap H [.row 0 2 [.d (Dx b)], .row zs.length 1 ((zs.map D.str).map V.d)]∧e.get 5= .slc (Bc H+1) zs.length 0 zs.length)
   (by
    rintro e X ⟨zs,hz,rfl,g1,g2,g5,g6⟩
    rw[List.take_length] at hz
    have key:Bq (ev R) R.glob (Bc H) Bg R5 ⟨e.keep [1,2,5,6],ap H [.row 0 2 [.d (Dx b)], .row zs.length 1 ((zs.map D.str).map V.d)]⟩=some (.exit 0,⟨[(1, .d (.str p)),(2, .ptr (Bc H) 0 0 0),(5, .slc (Bc H+1) zs.length 0 zs.length),(6, .d (.int .i64 b.ents.length)),(21, .d (.bool false))],ap H [.row 0 2 [.d (Dx b)], .row zs.length 1 ((zs.map D.str).map V.d)]⟩):=by
     simp(maxSteps:=1000000) [Cm,-List.getD_eq_getElem?_getD,-List.map_map,R5,g1,g2,g5,g6]
    rw[key]
    exact⟨by simp,zs,hz,rfl,rfl,rfl⟩)
   (by
    rintro i e X hi ⟨zs,hz,rfl,g1,g2,g5,g6⟩
    have c: (i:Int)< (b.ents.length:Int):=by omega
    have c0: (0:Int)≤(i:Int):=by omega
    have g:=Jk b.ents i hi
    have hn:=Bjn p b.ents i hi
    have hl:zs.length≤i:=by rw[hz];exact Nat.le_trans (Bnz _ _) (by rw[List.length_take];omega)
    rw[←hz] at hn
    have hk:=(Bek (hem _ (Gp hi:b.ents.getD i default∈b.ents))).key
    have p2:=B7z p (b.ents.getD i default).key hp (by omega)
    have w1:IntKind.i64.wrap ((i:Int)+1)=((i+1:Nat):Int):=by rw[IntWalk.i64_in _ (by omega)];rfl
    have r: (zs.length+1)*16≤Cv:=by unfold Cv;omega
    generalize b.ents.getD i default=E at*
    cases hm:Kj p E.key with
    |false=>
     rw[hm] at p2 hn
     simp only[Bool.false_eq_true,if_false,List.append_nil] at hn
     simp(maxSteps:=1000000) [Cm,-List.getD_eq_getElem?_getD,-List.map_map,R5,g1,g2,g5,g6,c,c0,hi,g,p1,p2,hg2,w1,r,hn]
    |true=>
     rw[hm] at p2 hn
     simp only[if_true] at hn
     simp(maxSteps:=1000000) [Cm,-List.getD_eq_getElem?_getD,-List.map_map,R5,g1,g2,g5,g6,c,c0,hi,g,p1,p2,hg2,w1,r,hn])
   b.ents.length 0 [(1, .d (.str p)),(2, .ptr (Bc H) 0 0 0),(5, .slc (Bc H+1) 0 0 0),(6, .d (.int .i64 0))] (ap H [.row 0 2 [.d (Dx b)], .row 0 1 []]) (by omega) ⟨[],by simp[Wp],rfl,rfl,rfl,rfl,rfl⟩).out
  obtain⟨o,e',X',he,zs,hz,rfl,rfl,g5⟩:=lp
  rw[←hz]
  have ft:List.take zs.length ((zs.map D.str).map V.d)=(zs.map D.str).map V.d:=List.take_of_length_le (by simp)
  simp(maxSteps:=1000000) [Cm,-List.getD_eq_getElem?_getD,-List.map_map,f10,he,g5,ft]
 ·rw[if_neg hg]
  have st:Bq (ev R) R.glob (Bc H) Bg R5 ⟨Env.keep [(1, .d (.str p)),(2, .ptr (Bc H) 0 0 0),(5, .slc (Bc H+1) 0 0 0),(6, .d (.int .i64 0))] [1,2,5,6],ap H [.row 0 2 [.d (Dx b)], .row 0 1 []]⟩=some (.exit 0,⟨[(1, .d (.str p)),(2, .ptr (Bc H) 0 0 0),(5, .slc (Bc H+1) 0 0 0),(6, .d (.int .i64 0)),(21, .d (.bool false))],ap H [.row 0 2 [.d (Dx b)], .row 0 1 []]⟩):=by
   by_cases h0:b.ents.length=0
   ·have h0': ¬ (0:Int)< (b.ents.length:Int):=by omega
    have h0'':b.ents=[]:=List.eq_nil_of_length_eq_zero h0
    simp(maxSteps:=1000000) [Cm,-List.getD_eq_getElem?_getD,-List.map_map,R5,h0',h0'']
   ·have h0': (0:Int)< (b.ents.length:Int):=by omega
    have h0'':b.ents≠[]:=fun h=>h0 (by rw[h];rfl)
    have h0''':0<b.ents.length:=by omega
    cases hk:Js b with
    |false=>rw[hk] at p1;simp(maxSteps:=1000000) [Cm,-List.getD_eq_getElem?_getD,-List.map_map,R5,h0',h0'',h0''',p1]
    |true=>
     rw[hk] at p1
     have hp2: ¬ (p.length:Int)≤12:=fun h=>hg ⟨hk,by omega⟩
     simp(maxSteps:=1000000) [Cm,-List.getD_eq_getElem?_getD,-List.map_map,R5,h0',h0'',h0''',p1,hp2]
  have he:=Gh (F:=Bq (ev R) R.glob (Bc H) Bg R5) (lv:=[1,2,5,6]) (st:=⟨[(1, .d (.str p)),(2, .ptr (Bc H) 0 0 0),(5, .slc (Bc H+1) 0 0 0),(6, .d (.int .i64 0))],ap H [.row 0 2 [.d (Dx b)], .row 0 1 []]⟩) st (by simp)
  simp(maxSteps:=1000000) [Cm,-List.getD_eq_getElem?_getD,-List.map_map,f10,he]
end Go.Proofs.YtjdmiodinhlchaaGreat.Code

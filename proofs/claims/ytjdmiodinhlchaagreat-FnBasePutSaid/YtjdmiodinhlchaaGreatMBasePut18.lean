/- Lemmas (several texts in one). -/
import Derived.Test.YtjdmiodinhlchaaGreatMBasePut7
import Derived.Test.YtjdmiodinhlchaaGreatMBasePut9
set_option maxRecDepth 100000
set_option linter.unusedSimpArgs false
set_option linter.unusedVariables false
namespace Go.Proofs.YtjdmiodinhlchaaGreat.Code
open Go Go.Ev Go.Proofs
theorem Bx8 (n0:Nat) (xs:List Bp) (hx:xs.length≤9223372036854775807) (H:Hp): ∀ (n i:Nat) (e:Env),i+n=xs.length→e.get 0= .d (Bf xs)→e.get 3= .d (.int .i64 i)→
  ∃e',Bg (Bq (ev R) R.glob n0 Bg Ya) [0,3] ⟨e,H⟩=some ((match Fz (Km xs) n i with|some _=> .ret|none=> .exit 0),⟨e',H⟩)∧
   (∀j,Fz (Km xs) n i=some j→e'.get 2= .d (.bool false))∧(Fz (Km xs) n i=none→e'.get 0= .d (Bf xs))
 |0,i,e,hn,h0,h3=>by
  have c: ¬ (i:Int)< (xs.length:Int):=by omega
  have c': ¬i<xs.length:=by omega
  rw[Co]
  refine⟨?_, ?_, ?_, ?_⟩
  rotate_left
  ·simp[Cu,-List.getD_eq_getElem?_getD,-List.map_map,Ya,h0,h3,Bf,c,c',Fz]
   rfl
  ·intro j hj;simp[Fz] at hj
  ·intro _
   try refine⟨?_, ?_⟩
   all_goals (first|trivial|simp[Cu,-List.getD_eq_getElem?_getD,-List.map_map,h0,h3,Bf])
 |n+1,i,e,hn,h0,h3=>by
  have c: (i:Int)< (xs.length:Int):=by omega
  have c':i<xs.length:=by omega
  have g:=Dv xs i c'
  have w1:IntKind.i64.wrap ((i:Int)+1)=((i+1:Nat):Int):=by rw[IntWalk.i64_in _ (by omega)];rfl
  have ih:=Bx8 n0 xs hx H n (i+1)
  rw[Co]
  generalize Bg (Bq (ev R) R.glob n0 Bg Ya) [0,3]=F at ih⊢
  by_cases hb:40< (xs.getD i []).length
  ·have hb': (40:Int)< ((xs.getD i []).length:Int):=by omega
   refine⟨?_, ?_, ?_, ?_⟩
   rotate_left
   ·simp[Cu,-List.getD_eq_getElem?_getD,-List.map_map,Ya,h0,h3,Bf,c,c',g,Fz,Km,hb,hb']
    rfl
   ·intro j hj
    simp[Fz,Km,hb,hb',-List.getD_eq_getElem?_getD] at hj
    try subst hj
    simp[Cu,-List.getD_eq_getElem?_getD,-List.map_map]
   ·intro hj;simp[Fz,Km,hb,hb',-List.getD_eq_getElem?_getD] at hj
  ·have hb': ¬ (40:Int)< ((xs.getD i []).length:Int):=by omega
   have hs:Fz (Km xs) (n+1) i=Fz (Km xs) n (i+1):=by simp[Fz,Km,hb,-List.getD_eq_getElem?_getD]
   rw[hs]
   simp[Cu,-List.getD_eq_getElem?_getD,-List.map_map,Ya,h0,h3,Bf,c,c',g,w1,hb,hb']
   refine ih _ (by omega) ?_ ?_<;>rfl
def Nz (xs:List Bp):Bool:=(Fz (Km xs) xs.length 0).isNone&& (decide (1≤xs.length) &&decide (xs.length≤8))
theorem Ux (xs:List Bp):Nz xs=true↔Bml xs:=by
 unfold Nz Bml
 constructor
 ·intro h
  simp only[Bool.and_eq_true,decide_eq_true_eq,Option.isNone_iff_eq_none] at h
  obtain⟨h1,h2,h3⟩:=h
  refine⟨fun x hx=> ?_,h2,h3⟩
  obtain⟨i,hi,rfl⟩:=List.getElem_of_mem hx
  have:=Tz h1 i (by omega) (by omega)
  simp only[Km,decide_eq_false_iff_not,List.getD_eq_getElem?_getD,List.getElem?_eq_getElem hi,Option.getD_some] at this
  omega
 ·rintro⟨h1,h2,h3⟩
  simp only[Bool.and_eq_true,decide_eq_true_eq,Option.isNone_iff_eq_none]
  refine⟨?_,h2,h3⟩
  cases hr:Fz (Km xs) xs.length 0 with
  |none=>rfl
  |some j=>
   obtain⟨_,hj,hp,_⟩:=T9 hr
   have hj':j<xs.length:=by omega
   simp only[Km,decide_eq_true_eq,List.getD_eq_getElem?_getD,List.getElem?_eq_getElem hj',Option.getD_some] at hp
   have:=h1 _ (List.getElem_mem hj')
   omega
theorem B00 (H:Hp) (xs:List Bp) (hx:xs.length≤9223372036854775807):ev R 160 [.d (Bf xs)] H=some (.d (.bool (Nz xs)),H):=by
 refine Bh (fn:=f160) rfl rfl ?_
 obtain⟨e',he,h1,h2⟩:=Bx8 (Bc H) xs hx H xs.length 0 [(0, .d (Bf xs)),(3, .d (.int .i64 0))] (by omega) rfl rfl
 have p:=Pg (xs.length:Int) 1 8
 unfold Nz
 cases hr:Fz (Km xs) xs.length 0 with
 |some j=>
  simp only[hr] at he
  simp[Cu,-List.getD_eq_getElem?_getD,-List.map_map,f160,he,h1 j hr,hr]
 |none=>
  simp only[hr] at he
  have h3:=h2 hr
  have q: (decide ((xs.length:Int)≥1) &&decide ((xs.length:Int)≤8))=(decide (1≤xs.length) &&decide (xs.length≤8)):=by
   congr 1<;>exact decide_eq_decide.2 (by omega)
  rw[q] at p
  simp[Cu,-List.getD_eq_getElem?_getD,-List.map_map,f160,he,h3,hr,Bf,p]
end Go.Proofs.YtjdmiodinhlchaaGreat.Code

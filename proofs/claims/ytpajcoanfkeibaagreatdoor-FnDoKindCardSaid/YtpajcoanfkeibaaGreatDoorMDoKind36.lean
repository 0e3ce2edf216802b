/- Lemmas (several texts in one). -/
import Derived.Test.YtpajcoanfkeibaaGreatDoorMDoKind4
import Derived.Test.YtpajcoanfkeibaaGreatDoorMDoKind5
import Derived.Test.YtpajcoanfkeibaaGreatDoorMDoKind32
import Derived.Test.YtpajcoanfkeibaaGreatDoorMDoKind35
import Derived.SliceStrings
set_option maxRecDepth 100000
set_option linter.unusedSimpArgs false
set_option linter.unusedVariables false
set_option maxHeartbeats 2000000
open List renaming map_cons → Cdd
open Option renaming some.injEq → Cdt
open Array renaming getElem?_eq_some_iff → Cd4
namespace Go.Proofs.YtpajcoanfkeibaaGreatDoor.Code
open Go Go.Ev Go.Proofs
theorem Bjg: ∀ {H:Type} (xs:List ByteArray) (names:List (List UInt8)),(names.map fun s=> (.lit (.string s):DataW H))=Go.ChangeShapes.strs xs→Tt xs=names
 |_,[],[],_=>rfl
 |_,[],_::_,h=>by simp[Go.ChangeShapes.strs] at h
 |_,_::_,[],h=>by simp[Go.ChangeShapes.strs] at h
 |_,x::xs,n::ns,h=>by
  simp only[Go.ChangeShapes.strs,Cdd,List.cons.injEq,DataW.lit.injEq,Lit.string.injEq] at h
  have:=Bjg xs ns h.2
  simp only[Tt,Cdd] at this⊢
  rw[this,h.1]
theorem B02 {P:Program} {W:World} {name:String} {g:Nat} {t e:TypeId} {names:List (List UInt8)} {Kj:List (String×DataW Unit)} (hg:P.globalNamed name=some g) (hty: (P.globals[g]?).map (·.type)=some t) (ht:P.underlying t=some (.slice e)) (he:P.underlying e=some .string) (hc:P.cellsOf e=1)
  (h:laidMet P ((name, .slice (names.map fun s=> .lit (.string s)) [])::Kj) W):
  RD W (fun _=>False) (.rptr [.vals 1 (names.map D.str)]) (.pointer (some ⟨g,0,none⟩))∧∃arr ty fr,W.heap[g]? =some (.cells arr ty fr)∧arr.size=1:=by
 obtain⟨ps,⟨g',t',cs,fuel,p,q,hg',ht',hvar,hd,_,_⟩,_⟩:=h
 obtain rfl:=Option.some.inj (hg.symm.trans hg')
 obtain rfl:=Option.some.inj (hty.symm.trans ht')
 rcases Go.ChangeShapes.open_strings ht he hc hd with⟨_,hx⟩ | ⟨a,len,cap,ss,hcs,_,hl,hm,Bc,hx,hcell,hs⟩
 ·simp at hx
 ·simp only[Prod.mk.injEq,DataW.slice.injEq] at hx
  obtain⟨⟨hx1,hx2⟩,_⟩:=hx
  have hd0:ss.drop len=[]:=by
   cases hq:ss.drop len with
   |nil=>rfl
   |cons y r=>rw[hq] at hx2;simp[Go.ChangeShapes.strs] at hx2
  have hss:ss.length≤len:=by
   have:=congrArg List.length hd0
   simp only[List.length_drop,List.length_nil] at this
   omega
  have hln:ss.length=cap:=by simpa using Bc
  have hle:ss.length=len:=by omega
  have ht0:ss.take len=ss:=List.take_of_length_le (by omega)
  rw[ht0] at hx1
  have hn:=Bjg _ _ hx1
  unfold World.var? at hvar
  rw[hg] at hvar
  simp only[Option.bind_some] at hvar
  split at hvar
  ·rename_i cs' ty fr hh
   simp only[Cdt] at hvar
   subst hvar
   have hcs2:cs'.size=1:=by have:=congrArg List.length hcs;simpa using this
   have hc0:cs'[0]? =some (.slice (some a) len cap):=by rw[←Array.getElem?_toList,hcs];rfl
   refine⟨.rptr _ g 0 (fun _=> .slice (some a) len cap) (fun h=>h) (Cd4.1 hh).1 (fun j hj=> ?_) (fun j hj=>rfl) (fun j hj=> ?_),_,_,_,hh,hcs2⟩
   ·have:j=0:=by simpa using hj
    subst this
    simp[World.cell?,hh,hc0]
   ·have:j=0:=by simpa using hj
    subst this
    have hT:Bmv W (some a) len cap ss:=⟨hle,hl,by omega,hs, .inr ⟨a,rfl,fun i hi=>hcell i (by omega)⟩⟩
    have:=Bts hT
    rw[hn] at this
    exact this
  ·simp at hvar
theorem B2o {P:Program} {W W':World} {n:String} {cs:Array Value} (h:W.var? P n=some cs) (hb:RowKit.Below W.heap.size W W'):W'.var? P n=some cs:=by
 unfold World.var? at h⊢
 cases hg:P.globalNamed n with
 |none=>rw[hg] at h;simp at h
 |some g=>
  rw[hg] at h
  simp only[Option.bind_some] at h⊢
  by_cases hl:g<W.heap.size
  ·rw[hb.block g hl];exact h
  ·rw[Array.getElem?_eq_none (by omega)] at h;simp at h
theorem B2k {P:Program} {w:World} {name:String} {g t:Nat} {a:Addr} {v:Value} (hn:P.globalNamed name=some g) (h:w.var? P name=some #[.iface t (.pointer (some a))]) (hc:w.cell? a=some v):
  RD w (fun _=>False) (.rptr [.iface t (.rptr [])]) (.pointer (some ⟨g,0,none⟩))∧∃arr ty fr,w.heap[g]? =some (.cells arr ty fr)∧arr.size=1:=by
 unfold World.var? at h
 rw[hn] at h
 simp only[Option.bind_some] at h
 split at h
 ·rename_i cs ty fr hh
  simp only[Cdt] at h
  subst h
  obtain⟨hsp,hb⟩:=Yn hc
  obtain⟨b,o,sp⟩:=a
  simp only at hsp hb
  subst hsp
  refine⟨.rptr _ g 0 (fun j=> .iface t (.pointer (some ⟨b,o,none⟩))) (fun h=>h) (Cd4.1 hh).1 (fun j hj=> ?_) (fun j hj=>rfl) (fun j hj=> ?_),_,_,_,hh,rfl⟩
  ·obtain rfl:j=0:=by simpa using hj
   simp[World.cell?,hh]
  ·obtain rfl:j=0:=by simpa using hj
   exact .iface _ _ _ (.rptr [] b o (fun _=>undef) (fun h=>h) hb (fun j hj=>by simp at hj) (fun j hj=>by simp at hj) (fun j hj=>by simp at hj))
 ·simp at h
namespace fnDoKind
theorem answers (a:Option Addr) (len cap:Nat) (zs:List Int) (w:World) (h:Brf .u8 w a len cap zs) (hG:GR Uu w (fun _=>False)):Calls Tryz.prog 3 #[.slice a len cap] w fun e w'=>e= .returned (.bool true)∧RowKit.Below w.heap.size w w':=by
 have hz: ∀i,0≤(zs.take len).getD i 0∧(zs.take len).getD i 0≤255:=Bp5 h
 refine Bke B1i (xs:=[Si (zs.take len)]) (e_3 [] _ hz) hG rfl fun j hj=> ?_
 match j,hj with
 |0,_=>exact Bto h
end fnDoKind
end Go.Proofs.YtpajcoanfkeibaaGreatDoor.Code

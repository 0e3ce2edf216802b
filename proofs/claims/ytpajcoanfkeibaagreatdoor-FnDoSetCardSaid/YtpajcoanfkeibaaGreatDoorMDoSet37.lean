/- Lemmas (several texts in one). -/
import Derived.Test.YtpajcoanfkeibaaGreatDoorMDoSet4
import Derived.Test.YtpajcoanfkeibaaGreatDoorMDoSet5
import Derived.Test.YtpajcoanfkeibaaGreatDoorMDoSet33
import Derived.Test.YtpajcoanfkeibaaGreatDoorMDoSet36
import Derived.SliceStrings
set_option maxRecDepth 100000
set_option linter.unusedSimpArgs false
set_option linter.unusedVariables false
set_option maxHeartbeats 2000000
namespace Go.Proofs.YtpajcoanfkeibaaGreatDoor.Code
open Go Go.Ev Go.Proofs
theorem Bi5: ∀ {H:Type} (xs:List ByteArray) (names:List (List UInt8)),(names.map fun s=> (.lit (.string s):DataW H))=Go.ChangeShapes.strs xs→Tx xs=names
 |_,[],[],_=>rfl
 |_,[],_::_,h=>by simp[Go.ChangeShapes.strs] at h
 |_,_::_,[],h=>by simp[Go.ChangeShapes.strs] at h
 |_,x::xs,n::ns,h=>by
  simp only[Go.ChangeShapes.strs,List.map_cons,List.cons.injEq,DataW.lit.injEq,Lit.string.injEq] at h
  have:=Bi5 xs ns h.2
  simp only[Tx,List.map_cons] at this⊢
  rw[this,h.1]
theorem B0j {P:Program} {W:World} {name:String} {g:Nat} {t e:TypeId} {names:List (List UInt8)} {Kw:List (String×DataW Unit)} (hg:P.globalNamed name=some g) (hty: (P.globals[g]?).map (·.type)=some t) (ht:P.underlying t=some (.slice e)) (he:P.underlying e=some .string) (hc:P.cellsOf e=1)
  (h:laidMet P ((name, .slice (names.map fun s=> .lit (.string s)) [])::Kw) W):
  RD W (fun _=>False) (.rptr [.vals 1 (names.map D.str)]) (.pointer (some ⟨g,0,none⟩))∧∃arr ty fr,W.heap[g]? =some (.cells arr ty fr)∧arr.size=1:=by
 obtain⟨ps,⟨g',t',cs,fuel,p,q,hg',ht',hvar,hd,_,_⟩,_⟩:=h
 obtain rfl:=Option.some.inj (hg.symm.trans hg')
 obtain rfl:=Option.some.inj (hty.symm.trans ht')
 rcases Go.ChangeShapes.open_strings ht he hc hd with⟨_,hx⟩ | ⟨a,len,cap,ss,hcs,_,hl,hm,Be,hx,hcell,hs⟩
 ·simp at hx
 ·simp only[Prod.mk.injEq,DataW.slice.injEq] at hx
  obtain⟨⟨hx1,hx2⟩,_⟩:=hx
  have hd0:ss.drop len=[]:=by
   cases hq:ss.drop len with
   |nil=>rfl
   |cons y r=>rw[hq] at hx2;simp[Go.ChangeShapes.strs] at hx2
  have hss:ss.length≤len:=by
   have:=congrArg List.length hd0
   simp only[List.length_drop,List.length_nil] at this
   omega
  have hln:ss.length=cap:=by simpa using Be
  have hle:ss.length=len:=by omega
  have ht0:ss.take len=ss:=List.take_of_length_le (by omega)
  rw[ht0] at hx1
  have hn:=Bi5 _ _ hx1
  unfold World.var? at hvar
  rw[hg] at hvar
  simp only[Option.bind_some] at hvar
  split at hvar
  ·rename_i cs' ty fr hh
   simp only[Option.some.injEq] at hvar
   subst hvar
   have hcs2:cs'.size=1:=by have:=congrArg List.length hcs;simpa using this
   have hc0:cs'[0]? =some (.slice (some a) len cap):=by rw[←Array.getElem?_toList,hcs];rfl
   refine⟨.rptr _ g 0 (fun _=> .slice (some a) len cap) (fun h=>h) (Array.getElem?_eq_some_iff.1 hh).1 (fun j hj=> ?_) (fun j hj=>rfl) (fun j hj=> ?_),_,_,_,hh,hcs2⟩
   ·have:j=0:=by simpa using hj
    subst this
    simp[World.cell?,hh,hc0]
   ·have:j=0:=by simpa using hj
    subst this
    have hT:Bmp W (some a) len cap ss:=⟨hle,hl,by omega,hs, .inr ⟨a,rfl,fun i hi=>hcell i (by omega)⟩⟩
    have:=Bs6 hT
    rw[hn] at this
    exact this
  ·simp at hvar
theorem B14 {P:Program} {W W':World} {n:String} {cs:Array Value} (h:W.var? P n=some cs) (hb:RowKit.Below W.heap.size W W'):W'.var? P n=some cs:=by
 unfold World.var? at h⊢
 cases hg:P.globalNamed n with
 |none=>rw[hg] at h;simp at h
 |some g=>
  rw[hg] at h
  simp only[Option.bind_some] at h⊢
  by_cases hl:g<W.heap.size
  ·rw[hb.block g hl];exact h
  ·rw[Array.getElem?_eq_none (by omega)] at h;simp at h
namespace fnDoSet
theorem answers (a:Option Addr) (len cap:Nat) (zs:List Int) (a':Option Addr) (len' cap':Nat) (zs':List Int) (w:World) (h:Bmo .u8 w a len cap zs) (h':Bmo .u8 w a' len' cap' zs') (hG:GR Bhh w (fun _=>False)):Calls Tryz.prog 5 #[.slice a len cap, .slice a' len' cap'] w fun e w'=>e= .returned (.bool true)∧RowKit.Below w.heap.size w w':=by
 have hz: ∀i,0≤(zs.take len).getD i 0∧(zs.take len).getD i 0≤255:=Bev h
 have hz': ∀i,0≤(zs'.take len').getD i 0∧(zs'.take len').getD i 0≤255:=Bev h'
 refine Bj2 B00 (xs:=[Pm (zs.take len),Pm (zs'.take len')]) (e_5 [] _ _ hz hz') hG rfl fun j hj=> ?_
 match j,hj with
 |0,_=>exact Bip h
 |1,_=>exact Bip h'
end fnDoSet
end Go.Proofs.YtpajcoanfkeibaaGreatDoor.Code

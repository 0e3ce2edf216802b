/- Lemmas (several texts in one). -/
import Derived.Test.YtjdmiodinhlchaaGreatMBasePut5
import Derived.Test.YtjdmiodinhlchaaGreatMBasePut33
import Derived.Test.YtjdmiodinhlchaaGreatProg
import Derived.Lib.Small
import Derived.Lib.Walk
import Derived.Sort.Grow
import Derived.Laws.Cover1
namespace Go.Proofs.YtjdmiodinhlchaaGreat.SortW
open Go Go.Proofs Go.Lib Go.Sort
theorem Byu {x y:List UInt8} (h:Op.bytesLess x y=true):Ev.Byt x y= -1:=by simp[Ev.Byt,h]
theorem Byv {x y:List UInt8} (h:Op.bytesLess x y=false) (h2: (!x==y)=true):Ev.Byt x y=1:=by
 have h3:Op.bytesLess y x=true:=by
  cases h4:Op.bytesLess y x with
  |true=>rfl
  |false=>
   have:=Ev.Bql h h4
   simp[this] at h2
 simp[Ev.Byt,h,h3]
theorem Byw {x y:List UInt8} (h2: (!x==y)=false):Ev.Byt x y=0:=by
 have:x=y:=by simpa using h2
 subst this
 simp[Ev.Byt,Ev.Bnj]
theorem Brd (x:ByteArray) (w:World):Calls Tryz.prog 74 #[.string x] w fun e w'=>e= .returned (.bool false)∧w'=w:=by
 go_enter Tryz.func74,Tryz.ntmps74
 go_wp2
 go_ret
 exact⟨by simp,rfl⟩
set_option maxHeartbeats 1000000 in
theorem Bjb (x y:ByteArray) (w:World):Calls Tryz.prog 50 #[.string x, .string y] w fun e w'=>e= .returned (.int .i64 (Ev.Byt x.toList y.toList))∧w'=w:=by
 go_enter Tryz.func50,Tryz.ntmps50
 go_wp2_with (go_at_call 74;refine(Brd _ _).mono ?_;rintro e w' ⟨rfl,hw⟩;rw[hw])
 all_goals (go_ret;refine⟨?_,rfl⟩)
 ·rename_i h;rw[Byu h];rfl
 ·rename_i h _ _ h2;rw[Byv h h2];rfl
 ·rename_i h h2;rw[Byw h2];rfl
theorem Bja (x y:ByteArray) (a1 a2 a3 a4 a5 a6 b1 b2 b3 b4 b5 b6:Value) (W:World):
  Calls Tryz.prog 49 #[.agg #[.string x,a1,a2,a3,a4,a5,a6], .agg #[.string y,b1,b2,b3,b4,b5,b6]] W fun e w'=>e= .returned (.int .i64 (Ev.Byt x.toList y.toList))∧∃q os',w'=grow (W.drewN q) os':=by
 have hcon:=fun W'=>Bjb x y W'
 generalize Ev.Byt x.toList y.toList=r at hcon⊢
 go_enter Tryz.func49,Tryz.ntmps49
 go_wp2_with (go_at_call 50;refine(hcon _).mono ?_;rintro e w' ⟨rfl,rfl⟩)
 go_ret
 exact⟨rfl,0,_,by rw[alloc_eq_grow,alloc_eq_grow,grow_grow];rfl⟩
theorem Bya {l:List Value} (h:l.length=7) {t:ByteArray} (h0:l.getD 0 undef= .string t): ∃a b c d e f,l=[.string t,a,b,c,d,e,f]:=by
 match l,h with
 | [x,a,b,c,d,e,f],_=>
  have:x= .string t:=h0
  exact⟨a,b,c,d,e,f,by rw[this]⟩
theorem B48 (x y:Ev.Elt false 6) (W:World):Calls Tryz.prog 49 #[.agg x.us.toArray, .agg y.us.toArray] W fun e w'=>e= .returned (.int .i64 (Ev.Elt.cf x y))∧∃q os',w'=grow (W.drewN q) os':=by
 obtain⟨a1,a2,a3,a4,a5,a6,ha⟩:=Bya x.len x.hd
 obtain⟨b1,b2,b3,b4,b5,b6,hb⟩:=Bya y.len y.hd
 have hn: ∀z:Ev.Elt false 6,z.n=0:=fun z=>by
  have h:=z.hv
  unfold Ev.Ze at h
  split at h
  ·simp only[Option.some.injEq,Prod.mk.injEq] at h;exact h.1.symm
  ·rename_i heq _;simp at heq
  ·simp at h
 have hc:Ev.Elt.cf x y=Ev.Byt x.t.toList y.t.toList:=by
  show Ev.Baj x.key y.key=_
  unfold Ev.Baj Ev.Elt.key
  rw[hn x,hn y,if_neg (by omega),if_neg (by omega),ByteArray.toList_eq,ByteArray.toList_eq]
 rw[ha,hb,hc]
 exact Bja x.t y.t a1 a2 a3 a4 a5 a6 b1 b2 b3 b4 b5 b6 W
end Go.Proofs.YtjdmiodinhlchaaGreat.SortW
namespace Go.Proofs.YtjdmiodinhlchaaGreat.Code
open Go Go.Ev Go.Proofs Go.Sort
theorem Bsu:Bp6 Tryz.prog false 48 49 6:=fun Gs cap d w hH hblk hsz=>
 (Tryz.slices_SortFunc 7 Tryz.isAgg36 Tryz.sizeOf36 Elt.us (fun (x:Elt false 6)=>x.len) (fun x v hv=>x.one v hv) Elt.cf (Elt.swo false 6) 49 #[] Gs 0 cap d w (enters_of Tryz.func49 (by kernel_rfl) rfl) (fun _ _ _ _ x y=>SortW.B48 x y _) hH hblk hsz).mono fun e w' ⟨he,d',n,os,hp,hs,hw⟩=> ⟨he,d',n,os,hp,hs,hw⟩
end Go.Proofs.YtjdmiodinhlchaaGreat.Code

/- Lemmas (several texts in one). -/
import Derived.Test.YtpajcoanfkeibaaGreatDoorMDoKind5
import Derived.Test.YtpajcoanfkeibaaGreatDoorMDoKind33
import Derived.Test.YtpajcoanfkeibaaGreatDoorProg
import Derived.Lib.Small
import Derived.Lib.Walk
import Derived.Sort.Grow
import Derived.Laws.Cover1
namespace Go.Proofs.YtpajcoanfkeibaaGreatDoor.SortW
open Go Go.Proofs Go.Lib Go.Sort
theorem B0p {x y:List UInt8} (h:Op.bytesLess x y=true):Ev.B0o x y= -1:=by simp[Ev.B0o,h]
theorem B0q {x y:List UInt8} (h:Op.bytesLess x y=false) (h2: (!x==y)=true):Ev.B0o x y=1:=by
 have h3:Op.bytesLess y x=true:=by
  cases h4:Op.bytesLess y x with
  |true=>rfl
  |false=>
   have:=Ev.Bru h h4
   simp[this] at h2
 simp[Ev.B0o,h,h3]
theorem B0r {x y:List UInt8} (h2: (!x==y)=false):Ev.B0o x y=0:=by
 have:x=y:=by simpa using h2
 subst this
 simp[Ev.B0o,Ev.Bom]
theorem Bsu (x:ByteArray) (w:World):Calls Tryz.prog 262 #[.string x] w fun e w'=>e= .returned (.bool false)∧w'=w:=by
 go_enter Tryz.func262,Tryz.ntmps262
 go_wp2
 go_ret
 exact⟨by simp,rfl⟩
set_option maxHeartbeats 1000000 in
theorem Bki (x y:ByteArray) (w:World):Calls Tryz.prog 232 #[.string x, .string y] w fun e w'=>e= .returned (.int .i64 (Ev.B0o x.toList y.toList))∧w'=w:=by
 go_enter Tryz.func232,Tryz.ntmps232
 go_wp2_with (go_at_call 262;refine(Bsu _ _).mono ?_;rintro e w' ⟨rfl,hw⟩;rw[hw])
 all_goals (go_ret;refine⟨?_,rfl⟩)
 ·rename_i h;rw[B0p h];rfl
 ·rename_i h _ _ h2;rw[B0q h h2];rfl
 ·rename_i h h2;rw[B0r h2];rfl
theorem Bkh (x y:ByteArray) (a1 a2 a3 a4 a5 a6 b1 b2 b3 b4 b5 b6:Value) (W:World):
  Calls Tryz.prog 236 #[.agg #[.string x,a1,a2,a3,a4,a5,a6], .agg #[.string y,b1,b2,b3,b4,b5,b6]] W fun e w'=>e= .returned (.int .i64 (Ev.B0o x.toList y.toList))∧∃q os',w'=grow (W.drewN q) os':=by
 have hcon:=fun W'=>Bki x y W'
 generalize Ev.B0o x.toList y.toList=r at hcon⊢
 go_enter Tryz.func236,Tryz.ntmps236
 go_wp2_with (go_at_call 232;refine(hcon _).mono ?_;rintro e w' ⟨rfl,rfl⟩)
 go_ret
 exact⟨rfl,0,_,by rw[alloc_eq_grow,alloc_eq_grow,grow_grow];rfl⟩
theorem Bz3 {l:List Value} (h:l.length=7) {t:ByteArray} (h0:l.getD 0 undef= .string t): ∃a b c d e f,l=[.string t,a,b,c,d,e,f]:=by
 match l,h with
 | [x,a,b,c,d,e,f],_=>
  have:x= .string t:=h0
  exact⟨a,b,c,d,e,f,by rw[this]⟩
theorem B77 (x y:Ev.Elt false 6) (W:World):Calls Tryz.prog 236 #[.agg x.us.toArray, .agg y.us.toArray] W fun e w'=>e= .returned (.int .i64 (Ev.Elt.cf x y))∧∃q os',w'=grow (W.drewN q) os':=by
 obtain⟨a1,a2,a3,a4,a5,a6,ha⟩:=Bz3 x.len x.hd
 obtain⟨b1,b2,b3,b4,b5,b6,hb⟩:=Bz3 y.len y.hd
 have hn: ∀z:Ev.Elt false 6,z.n=0:=fun z=>by
  have h:=z.hv
  unfold Ev.skV at h
  split at h
  ·simp only[Option.some.injEq,Prod.mk.injEq] at h;exact h.1.symm
  ·rename_i heq _;simp at heq
  ·simp at h
 have hc:Ev.Elt.cf x y=Ev.B0o x.t.toList y.t.toList:=by
  show Ev.Ba9 x.key y.key=_
  unfold Ev.Ba9 Ev.Elt.key
  rw[hn x,hn y,if_neg (by omega),if_neg (by omega),ByteArray.toList_eq,ByteArray.toList_eq]
 rw[ha,hb,hc]
 exact Bkh x.t y.t a1 a2 a3 a4 a5 a6 b1 b2 b3 b4 b5 b6 W
end Go.Proofs.YtpajcoanfkeibaaGreatDoor.SortW
namespace Go.Proofs.YtpajcoanfkeibaaGreatDoor.Code
open Go Go.Ev Go.Proofs Go.Sort
theorem Bqm:Bzl Tryz.prog false 235 236 6:=fun Gq cap d w hH hblk hsz=>
 (Tryz.slices_SortFunc_f235 7 Tryz.isAgg32 Tryz.sizeOf32 Elt.us (fun (x:Elt false 6)=>x.len) (fun x v hv=>x.one v hv) Elt.cf (Elt.swo false 6) 236 #[] Gq 0 cap d w (enters_of Tryz.func236 (by kernel_rfl) rfl) (fun _ _ _ _ x y=>SortW.B77 x y _) hH hblk hsz).mono fun e w' ⟨he,d',n,os,hp,hs,hw⟩=> ⟨he,d',n,os,hp,hs,hw⟩
end Go.Proofs.YtpajcoanfkeibaaGreatDoor.Code

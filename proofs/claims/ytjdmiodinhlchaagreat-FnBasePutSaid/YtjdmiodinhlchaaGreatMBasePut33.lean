/- Lemmas (several texts in one). -/
import Derived.Ground.SlsfProg
import Derived.Shelf.SlSortCmp.WholeK
import Derived.Test.YtjdmiodinhlchaaGreatProg
namespace Go.Proofs
open Go.Shelf
def Tryz.laysSlF06_f48_ren:Go.Shelf.Ren:=⟨fun|6=>48|15=>73|14=>72|28=>98|29=>99|20=>90|21=>91|22=>92|23=>93|24=>94|25=>95|26=>96|27=>97|46=>120|47=>121|48=>122|49=>123|50=>124|57=>158|n=>n,fun|22=>23|24=>36|25=>72|3=>3|39=>92|0=>0|53=>115|55=>117|4=>4|46=>109|45=>108|50=>66|5=>5|9=>9|66=>130|70=>134|76=>170|77=>144|n=>n,fun|n=>n⟩
theorem Tryz.laysSlF06_f48:Go.Proofs.SlLaysF0.n6 Tryz.prog Tryz.laysSlF06_f48_ren:= {
 mixed:=by kernel_rfl
 f6:=⟨Tryz.f48.name,by decide,Tryz.func48.trans (congrArg some (by kernel_rfl))⟩
 f14:=⟨Tryz.f72.name,by decide,Tryz.func72.trans (congrArg some (by kernel_rfl))⟩
 f15:=Tryz.func73.trans (congrArg some (by kernel_rfl))
 f20:=⟨Tryz.f90.name,by decide,Tryz.func90.trans (congrArg some (by kernel_rfl))⟩
 f21:=⟨Tryz.f91.name,by decide,Tryz.func91.trans (congrArg some (by kernel_rfl))⟩
 f22:=⟨Tryz.f92.name,by decide,Tryz.func92.trans (congrArg some (by kernel_rfl))⟩
 f23:=⟨Tryz.f93.name,by decide,Tryz.func93.trans (congrArg some (by kernel_rfl))⟩
 f24:=⟨Tryz.f94.name,by decide,Tryz.func94.trans (congrArg some (by kernel_rfl))⟩
 f25:=⟨Tryz.f95.name,by decide,Tryz.func95.trans (congrArg some (by kernel_rfl))⟩
 f26:=⟨Tryz.f96.name,by decide,Tryz.func96.trans (congrArg some (by kernel_rfl))⟩
 f27:=⟨Tryz.f97.name,by decide,Tryz.func97.trans (congrArg some (by kernel_rfl))⟩
 f28:=Tryz.func98.trans (congrArg some (by kernel_rfl))
 f29:=Tryz.func99.trans (congrArg some (by kernel_rfl))
 f46:=⟨Tryz.f120.name,by decide,Tryz.func120.trans (congrArg some (by kernel_rfl))⟩
 f47:=Tryz.func121.trans (congrArg some (by kernel_rfl))
 f48:=Tryz.func122.trans (congrArg some (by kernel_rfl))
 f49:=⟨Tryz.f123.name,by decide,Tryz.func123.trans (congrArg some (by kernel_rfl))⟩
 f50:=⟨Tryz.f124.name,by decide,Tryz.func124.trans (congrArg some (by kernel_rfl))⟩
 f57:=⟨Tryz.f158.name,by decide,Tryz.func158.trans (congrArg some (by kernel_rfl))⟩
 t0:=Tryz.underlying0
 a0:=Tryz.isAgg0
 z0:=Tryz.sizeOf0
 v0:=Tryz.zeroValue0
 t3:=Tryz.underlying3
 a3:=Tryz.isAgg3
 z3:=Tryz.sizeOf3
 v3:=Tryz.zeroValue3
 t4:=Tryz.underlying4
 a4:=Tryz.isAgg4
 z4:=Tryz.sizeOf4
 v4:=Tryz.zeroValue4
 t5:=Tryz.underlying5
 a5:=Tryz.isAgg5
 z5:=Tryz.sizeOf5
 v5:=Tryz.zeroValue5
 t9:=Tryz.underlying9
 a9:=Tryz.isAgg9
 z9:=Tryz.sizeOf9
 v9:=Tryz.zeroValue9
 t22:=Tryz.underlying23
 a22:=Tryz.isAgg23
 z22:=Tryz.sizeOf23
 v22:=Tryz.zeroValue23
 t25:=Tryz.underlying72
 a25:=Tryz.isAgg72
 z25:=Tryz.sizeOf72
 v25:=Tryz.zeroValue72
 t39:=Tryz.underlying92
 a39:=Tryz.isAgg92
 z39:=Tryz.sizeOf92
 v39:=Tryz.zeroValue92
 t45:=Tryz.underlying108
 a45:=Tryz.isAgg108
 z45:=Tryz.sizeOf108
 v45:=Tryz.zeroValue108
 t46:=Tryz.underlying109
 a46:=Tryz.isAgg109
 z46:=Tryz.sizeOf109
 v46:=Tryz.zeroValue109
 t50:=Tryz.underlying66
 a50:=Tryz.isAgg66
 z50:=Tryz.sizeOf66
 v50:=Tryz.zeroValue66
 t53:=Tryz.underlying115
 a53:=Tryz.isAgg115
 z53:=Tryz.sizeOf115
 v53:=Tryz.zeroValue115
 t55:=Tryz.underlying117
 a55:=Tryz.isAgg117
 z55:=Tryz.sizeOf117
 v55:=Tryz.zeroValue117
 t66:=Tryz.underlying130
 a66:=Tryz.isAgg130
 z66:=Tryz.sizeOf130
 v66:=Tryz.zeroValue130
 t70:=Tryz.underlying134
 a70:=Tryz.isAgg134
 z70:=Tryz.sizeOf134
 v70:=Tryz.zeroValue134
 t76:=Tryz.underlying170
 a76:=Tryz.isAgg170
 z76:=Tryz.sizeOf170
 v76:=Tryz.zeroValue170
 t77:=Tryz.underlying144
 a77:=Tryz.isAgg144
 z77:=Tryz.sizeOf144
 v77:=Tryz.zeroValue144 }
open Go.RowKit Go.Lib Go.Sort in
open Go.RowKit Go.Lib Go.Sort in
theorem Tryz.slices_SortFunc {α:Type} [Inhabited α] (k:Nat) (aE: ∀w,(isAgg 36).run Tryz.prog w= .ok true w) (zE: ∀w,(Go.sizeOf 36).run Tryz.prog w= .ok k w) (enc:α→List Value) (hk: ∀x,(enc x).length=k) (h1: ∀x,∀v∈enc x,v.oneCell'=true) (cf:α→α→Int) (hO:SWO (ltOf cf)) (g:Nat) (cb:Array Value) (Gs off cap:Nat) (d:Array α) (w:World) (eg: ∀args w,(callFunc g args).run Tryz.prog w= .ok (.enter g args) w) (hcmp:CmpLays Tryz.prog g cb enc k cf Gs off d.size w) (hH:HoldsK enc k w Gs off d) (hblk:Gs<w.heap.size) (hsz:d.size<4611686018427387904):
  Calls Tryz.prog 48 #[.slice (some ⟨Gs,off,none⟩) d.size cap, .func (.func g) #[] cb] w fun e w'=>
   e= .returned (.tuple #[])∧∃d' n os,PermIn 0 d.size d d'∧SortedIn (ltOf cf) 0 d.size d'∧w'=sortWorldK enc k w Gs off n d' os:=AnyQ.slices_SortFunc Tryz.laysSlF06_f48 k aE zE enc hk h1 cf hO g cb Gs off cap d w eg hcmp hH hblk hsz
end Go.Proofs

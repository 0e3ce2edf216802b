/- The card FnRecordCardSaid, out of what its law answers: for every input the law returns true; the tables that the row lists are tied to the program's text. -/
import Derived.Test.YtedlandcnpjghaaGreatDoorMRecord35
import Derived.Test.YtedlandcnpjghaaGreatDoorRows
import Derived.Test.YtedlandcnpjghaaGreatDoorCards
import Derived.Test.YtedlandcnpjghaaGreatDoorTie
import Derived.WalkKit
import Derived.ProofKit
import Derived.OpenShut
import Derived.ShutString
import Derived.ChangeOld
import Derived.Below
import Derived.SizedLaws
import Derived.SliceStrings
import Derived.LaidMore
import Derived.Handed
import Derived.LaidSub
import Derived.LaidHandle
import Derived.MakeChecks
import Derived.SevenTiedAt
import Derived.Lib.LaidTab
import Derived.Stop.Joined
import Derived.Stop.LaidErr
set_option linter.unusedVariables false
set_option maxRecDepth 100000
namespace Go.Proofs.YtedlandcnpjghaaGreatDoor.fnRecord
open Go.ChangeShapes Go.WideShapes Go.ChangeAt Go.RowKit
open Go.ChangeMaps (open_string shut_string)
theorem own:ownKnob Tryz.prog.godebug=none:=by kernel_rfl
theorem laidOut:laidOutB Tryz.prog=true:=by kernel_rfl
def Zy:List (String×DataW Unit):=[("math/bits.deBruijn32tab",Rows.laid_math_bits_deBruijn32tab),("math/bits.deBruijn64tab",Rows.laid_math_bits_deBruijn64tab),("internal/strconv.uint64pow10",Rows.laid_internal_strconv_uint64pow10),("strconv.ErrRange",Rows.laid_strconv_ErrRange),("strconv.ErrSyntax",Rows.laid_strconv_ErrSyntax)]
theorem door_met (os:Os) (args:Array Value):laidMetH Tryz.prog Zy ((World.doorLaid Tryz.prog 62 os).forCall (fun _ _=>0) ⟨#[],args,[]⟩).memory:=
 laidMetH_of_parts3 (fuel:=8) (laidMet_of_run' 8 (by kernel_rfl) (by kernel_rfl)) (by kernel_rfl) (by kernel_rfl)
theorem star: "*"++ "errors.errorString"= "*errors.errorString":=by decide
theorem row_err (u:TypeId) (h:Tryz.prog.typeName? 3 u=some "*errors.errorString"):u=162:=
 typeName_ptr_named (nm:= "errors.errorString") (by rw[star];kernel_rfl) (by kernel_rfl) (by decide) u (by rw[star];exact h)
theorem gr_of_laid {W:World} (h:laidMetH Tryz.prog Zy W):Go.Ev.GR Code.Zv W (fun _=>False):=by
 have h1:=h.filter (fun x=>decide (x.1= "internal/strconv.uint64pow10"))
 have e:Zy.filter (fun x=>decide (x.1= "internal/strconv.uint64pow10"))=[("internal/strconv.uint64pow10",Lib.tabData .u64 Lib.pow10Tab)]:=by rfl
 rw[e,MakeChecks.laidMetH_plain _ _ _ (by kernel_rfl)] at h1
 have t:=Lib.tabIs_of_head (g:=2) (t:=155) (e:=101) (n:=20) (by kernel_rfl) (by kernel_rfl) Tryz.underlying155 Tryz.underlying101 (by kernel_rfl) (by kernel_rfl) h1
 have s0:=h.filter (fun x=>decide (x.1= "strconv.ErrSyntax"))
 have e0:Zy.filter (fun x=>decide (x.1= "strconv.ErrSyntax"))=[("strconv.ErrSyntax",Rows.laid_strconv_ErrSyntax)]:=by rfl
 rw[e0,MakeChecks.laidMetH_plain _ _ _ (by kernel_rfl)] at s0
 obtain⟨a0,z0,hv0,hc0,_,_⟩:=laid_sentinel (g:=0) s0 (by kernel_rfl) (by kernel_rfl) Tryz.underlying63 row_err Tryz.underlying162 Tryz.underlying164 rfl rfl Tryz.underlying9 (by kernel_rfl) (by kernel_rfl)
 have s1:=h.filter (fun x=>decide (x.1= "strconv.ErrRange"))
 have e1:Zy.filter (fun x=>decide (x.1= "strconv.ErrRange"))=[("strconv.ErrRange",Rows.laid_strconv_ErrRange)]:=by rfl
 rw[e1,MakeChecks.laidMetH_plain _ _ _ (by kernel_rfl)] at s1
 obtain⟨a1,z1,hv1,hc1,_,_⟩:=laid_sentinel (g:=1) s1 (by kernel_rfl) (by kernel_rfl) Tryz.underlying63 row_err Tryz.underlying162 Tryz.underlying164 rfl rfl Tryz.underlying9 (by kernel_rfl) (by kernel_rfl)
 intro n cs hn
 unfold Code.Zv at hn
 by_cases h0:n=2
 ·rw[if_pos h0] at hn
  simp only[Option.some.injEq] at hn
  subst h0
  subst hn
  exact Go.Ev.B0n (by kernel_rfl) t
 rw[if_neg h0] at hn
 by_cases h0:n=0
 ·rw[if_pos h0] at hn
  simp only[Option.some.injEq] at hn
  subst h0
  subst hn
  exact Code.B0m (by kernel_rfl) hv0 hc0
 rw[if_neg h0] at hn
 by_cases h0:n=1
 ·rw[if_pos h0] at hn
  simp only[Option.some.injEq] at hn
  subst h0
  subst hn
  exact Code.B0m (by kernel_rfl) hv1 hc1
 rw[if_neg h0] at hn
 simp at hn
theorem lifted (os:Os) (started:os.Started) (H:Type) (enc:TypeId×Value→H):
  ReturnsInHanded {} Tryz.checked os 3 .any (fun w args=> (Rows.fnRecordSpec.pre enc Tryz.prog Tryz.f3 [] false w args∧laidMetH Tryz.prog Zy w)∧sizedMet enc Tryz.prog Tryz.f3 (OpenSpec.ofChange Rows.fnRecordSpec) false w args) (Rows.fnRecordSpec.post enc Tryz.prog Tryz.f3 false true false false):=by
 refine returnsInHanded_of_change_and (C:=Tryz.checked) (X:=fun w _=>laidMetH Tryz.prog Zy w) (fun _ _ _ hh h=>h.of_heap hh) own started (by kernel_rfl) Tryz.func3
  (ChangeSpec.witness_shaped (enc:=enc) (C:=Tryz.checked) (os:=os) (X:=fun w _=>laidMetH Tryz.prog Zy w) false (World.doorLaid Tryz.prog 62 os) #[.slice none 0 0, .slice none 0 0] 8 rfl (World.shaped_of_RefB (by kernel_rfl) (by kernel_rfl)) (by kernel_rfl) (by kernel_rfl) (by kernel_rfl) (door_met os _)) ?_
 intro W base args ds gs before hval0 hW hcnd hsz0 hL _
 have hG:=gr_of_laid hL
 have hsz: (DataW.weightsEach Tryz.prog (Tryz.f3.params.toList++Rows.fnRecordSpec.plain.varTypes Tryz.prog) (ds++gs)).all (·≤reachBytes)=true:=hsz0
 have hval: ∀ (j:Nat) t v,Tryz.f3.params[j]? =some t→args[j]? =some v→Value.okWide Tryz.prog W .any base t v:=hval0
 have hW':=hW
 obtain⟨p,q,hA0,hV,rfl,hfz,hnd⟩:=hW'
 have hA:DataW.TrodAll enc Tryz.prog W 0 (fun _=>true) true Tryz.f3.params.toList args.toList ds p:=hA0
 rw[Tryz.params3] at hA hval hsz
 obtain⟨v0,vs0,d0,ds0,p0,q0,hargs,rfl,rfl,h0,r0⟩:=trodAll_cons hA
 obtain⟨v1,vs1,d1,ds1,p1,q1,rfl,rfl,rfl,h1,r1⟩:=trodAll_cons r0
 obtain⟨rfl,rfl,rfl⟩:=trodAll_nil r1
 obtain rfl:args= #[v0,v1]:=by cases args;simp_all
 obtain⟨rfl,rfl⟩:=trodVars_none hV
 obtain⟨a0,len0,cap0,rfl⟩:=okWide_slice Tryz.underlying22 (hval 0 22 v0 rfl rfl)
 have k0:=h0
 have lt0: ∀x∈p0,x.block<W.heap.size:=by obtain⟨m,hm⟩:=k0;exact DataW.trod_lt m _ _ _ hm
 obtain⟨z0,w0⟩: ∃zs,Go.Ev.Bl8 .u8 W a0 len0 cap0 zs:=by
  obtain⟨fuel,hf⟩:=h0
  rcases open_ints Tryz.underlying22 Tryz.underlying5 (by kernel_rfl) hf with⟨hcs,_⟩ | ⟨x,l,c,zs,hcs,_,hl,hm,hz,_,hcell,hwz⟩
  ·simp[Value.cells] at hcs
   obtain⟨rfl,rfl,rfl⟩:=hcs
   exact⟨[], .inl ⟨rfl,rfl,rfl,rfl⟩⟩
  ·simp[Value.cells] at hcs
   obtain⟨rfl,rfl,rfl⟩:=hcs
   exact⟨zs, .inr ⟨_,rfl,hl,hm,by simpa using hz,hcell,hwz⟩⟩
 obtain⟨a1,len1,cap1,rfl⟩:=okWide_slice Tryz.underlying22 (hval 1 22 v1 rfl rfl)
 have k1:=h1
 have lt1: ∀x∈p1,x.block<W.heap.size:=by obtain⟨m,hm⟩:=k1;exact DataW.trod_lt m _ _ _ hm
 obtain⟨z1,w1⟩: ∃zs,Go.Ev.Bl8 .u8 W a1 len1 cap1 zs:=by
  obtain⟨fuel,hf⟩:=h1
  rcases open_ints Tryz.underlying22 Tryz.underlying5 (by kernel_rfl) hf with⟨hcs,_⟩ | ⟨x,l,c,zs,hcs,_,hl,hm,hz,_,hcell,hwz⟩
  ·simp[Value.cells] at hcs
   obtain⟨rfl,rfl,rfl⟩:=hcs
   exact⟨[], .inl ⟨rfl,rfl,rfl,rfl⟩⟩
  ·simp[Value.cells] at hcs
   obtain⟨rfl,rfl,rfl⟩:=hcs
   exact⟨zs, .inr ⟨_,rfl,hl,hm,by simpa using hz,hcell,hwz⟩⟩
 clear hA0 hval0 hsz0 hsz
 refine(Code.fnRecord.answers a0 len0 cap0 z0 a1 len1 cap1 z1 W w0 w1 hG).mono fun e W' ⟨he,bel⟩=> ?_
 subst he
 exact⟨_,rfl,_,_,_,[],_,[],hW,trodAll_mk1 (shut_bool Tryz.underlying4 _),(trodAll_cons_mk (Below.trod laidOut (by kernel_rfl) (of_decide_eq_true (by kernel_rfl)) k0 bel lt0) (trodAll_cons_mk (Below.trod laidOut (by kernel_rfl) (of_decide_eq_true (by kernel_rfl)) k1 bel lt1) trodAll_mk0)),rfl,bel.frame _,fun h=>by cases h⟩
theorem proved:Rows.fnRecordRow.holds Tryz.pinned (OpenSpec.ofChange Rows.fnRecordSpec):=
 OpenClaim.holds_of_wide 3 Tryz.f3 rfl rfl rfl rfl rfl rfl rfl ⟨rfl,rfl,rfl,rfl,rfl⟩ rfl rfl rfl rfl rfl (by kernel_rfl) Tryz.func3 (by kernel_rfl)
  (of_decide_eq_true (by kernel_rfl)) (by unfold Func.isWrapper;first| (rw[if_pos (by decide+kernel)];kernel_rfl) | (rw[if_neg (by decide+kernel)];exact⟨rfl,rfl⟩))
  (fun os started H enc _=>lifted os started H enc)
theorem card:Claim7.holds Tryz.pinned (.plain (OpenSpec.ofChange Rows.fnRecordSpec)) Rows.fnRecordCard:=
 Claim7.holds_tied_plain_at .later [] [.data, .data, .data, .sentinel, .sentinel] true (true,"1310e1236459097d89319a66a4c86dae64b275f7e28074e6522c894e4c37c105") true
  proved (fun _ h=>by cases h) (by kernel_rfl) (fun _ h=>by cases h) fnRecord_row_tie rfl ⟨rfl,rfl⟩ (by kernel_rfl) rfl
  (fun f fn hf hfn=>by
   obtain rfl:f=3:=Option.some.inj ((show Tryz.prog.funcNamed "loop.example/quincunx/laws.FnRecord"=some 3 by kernel_rfl).symm.trans hf) |>.symm
   obtain rfl:fn=Tryz.f3:=(Option.some.inj (Tryz.func3.symm.trans hfn)).symm
   exact⟨by kernel_rfl,fun j t ht=>by
    rw[Tryz.params3] at ht
    have hm:t∈[22]:=by simpa using Array.mem_of_getElem? ht
    have hall: ([22].all fun u=> !Tryz.prog.wantsStandIn u)=true:=by kernel_rfl
    exact(show Tryz.prog.wantsStandIn t=false by simpa using List.all_eq_true.1 hall t hm)⟩)
  (by kernel_rfl)
end Go.Proofs.YtedlandcnpjghaaGreatDoor.fnRecord
namespace Go.Proofs.YtedlandcnpjghaaGreatDoor
theorem fnRecord_holds:Rows.FnRecordCardSaid:=fnRecord.card
end Go.Proofs.YtedlandcnpjghaaGreatDoor

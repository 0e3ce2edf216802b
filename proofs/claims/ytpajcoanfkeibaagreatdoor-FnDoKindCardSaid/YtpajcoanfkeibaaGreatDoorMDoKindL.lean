/- The card FnDoKindCardSaid, out of what its law answers: for every input the law returns true; the tables that the row lists are tied to the program's text. -/
import Derived.Test.YtpajcoanfkeibaaGreatDoorMDoKind36
import Derived.Test.YtpajcoanfkeibaaGreatDoorRows
import Derived.Test.YtpajcoanfkeibaaGreatDoorCards
import Derived.Test.YtpajcoanfkeibaaGreatDoorTie
import Derived.WalkKit
import Derived.ProofKit
import Derived.OpenShut
import Derived.ShutString
import Derived.ChangeOld
import Derived.Below
import Derived.SizedLaws
import Derived.SliceStrings
import Derived.LaidMore
import Derived.Handed
import Derived.LaidSub
import Derived.LaidHandle
import Derived.MakeChecks
import Derived.SevenTiedAt
import Derived.Lib.LaidTab
import Derived.Stop.Joined
import Derived.ChangeVars
import Derived.Stop.LaidErr
set_option linter.unusedVariables false
set_option maxRecDepth 100000
namespace Go.Proofs.YtpajcoanfkeibaaGreatDoor.fnDoKind
open Go.ChangeShapes Go.WideShapes Go.ChangeAt Go.RowKit
open Go.ChangeMaps (open_string shut_string)
theorem own:ownKnob Tryz.prog.godebug=none:=by kernel_rfl
theorem laidOut:laidOutB Tryz.prog=true:=by kernel_rfl
def Xt:List (String×DataW Unit):=[("math/bits.deBruijn32tab",Rows.laid_math_bits_deBruijn32tab),("math/bits.deBruijn64tab",Rows.laid_math_bits_deBruijn64tab),("internal/strconv.uint64pow10",Rows.laid_internal_strconv_uint64pow10),("strconv.ErrRange",Rows.laid_strconv_ErrRange),("strconv.ErrSyntax",Rows.laid_strconv_ErrSyntax),("loop.example/quincunx/impl.kindNames",Rows.laid_loop_example_quincunx_impl_kindNames)]
theorem door_met (os:Os) (args:Array Value):laidMetH Tryz.prog Xt ((World.doorLaid Tryz.prog 62 os).forCall (fun _ _=>0) ⟨#[],args,[]⟩).memory:=
 laidMetH_of_parts3 (fuel:=8) (laidMet_of_run' 8 (by kernel_rfl) (by kernel_rfl)) (by kernel_rfl) (by kernel_rfl)
theorem star: "*"++ "errors.errorString"= "*errors.errorString":=by decide
theorem row_err (u:TypeId) (h:Tryz.prog.typeName? 3 u=some "*errors.errorString"):u=238:=
 typeName_ptr_named (nm:= "errors.errorString") (by rw[star];kernel_rfl) (by kernel_rfl) (by decide) u (by rw[star];exact h)
theorem gr_of_laid {W:World} (h:laidMetH Tryz.prog Xt W):Go.Ev.GR Code.Uu W (fun _=>False):=by
 have h1:=h.filter (fun x=>decide (x.1= "internal/strconv.uint64pow10"))
 have e:Xt.filter (fun x=>decide (x.1= "internal/strconv.uint64pow10"))=[("internal/strconv.uint64pow10",Lib.tabData .u64 Lib.pow10Tab)]:=by rfl
 rw[e,MakeChecks.laidMetH_plain _ _ _ (by kernel_rfl)] at h1
 have t:=Lib.tabIs_of_head (g:=3) (t:=242) (e:=200) (n:=20) (by kernel_rfl) (by kernel_rfl) Tryz.underlying242 Tryz.underlying200 (by kernel_rfl) (by kernel_rfl) h1
 have k1:=h.filter (fun x=>decide (x.1= "loop.example/quincunx/impl.kindNames"))
 have ke:Xt.filter (fun x=>decide (x.1= "loop.example/quincunx/impl.kindNames"))=[("loop.example/quincunx/impl.kindNames",Rows.laid_loop_example_quincunx_impl_kindNames)]:=by rfl
 rw[ke,MakeChecks.laidMetH_plain _ _ _ (by kernel_rfl)] at k1
 have kk:=Code.B02 (names:=[[110,111,110,101],[115,116,114,105,110,103],[108,105,115,116],[115,101,116],[122,115,101,116],[104,97,115,104]]) (g:=0) (t:=28) (e:=9) (by kernel_rfl) (by kernel_rfl) Tryz.underlying28 Tryz.underlying9 (by kernel_rfl) k1
 have s1:=h.filter (fun x=>decide (x.1= "strconv.ErrSyntax"))
 have e1:Xt.filter (fun x=>decide (x.1= "strconv.ErrSyntax"))=[("strconv.ErrSyntax",Rows.laid_strconv_ErrSyntax)]:=by rfl
 rw[e1,MakeChecks.laidMetH_plain _ _ _ (by kernel_rfl)] at s1
 obtain⟨a1,z1,hv1,hc1,_,_⟩:=laid_sentinel (g:=1) s1 (by kernel_rfl) (by kernel_rfl) Tryz.underlying139 row_err Tryz.underlying238 Tryz.underlying240 rfl rfl Tryz.underlying9 (by kernel_rfl) (by kernel_rfl)
 have s2:=h.filter (fun x=>decide (x.1= "strconv.ErrRange"))
 have e2:Xt.filter (fun x=>decide (x.1= "strconv.ErrRange"))=[("strconv.ErrRange",Rows.laid_strconv_ErrRange)]:=by rfl
 rw[e2,MakeChecks.laidMetH_plain _ _ _ (by kernel_rfl)] at s2
 obtain⟨a2,z2,hv2,hc2,_,_⟩:=laid_sentinel (g:=2) s2 (by kernel_rfl) (by kernel_rfl) Tryz.underlying139 row_err Tryz.underlying238 Tryz.underlying240 rfl rfl Tryz.underlying9 (by kernel_rfl) (by kernel_rfl)
 intro n cs hn
 unfold Code.Uu at hn
 by_cases h0:n=3
 ·rw[if_pos h0] at hn
  simp only[Option.some.injEq] at hn
  subst h0
  subst hn
  exact Go.Ev.B2l (by kernel_rfl) t
 rw[if_neg h0] at hn
 by_cases h0:n=1
 ·rw[if_pos h0] at hn
  simp only[Option.some.injEq] at hn
  subst h0
  subst hn
  exact Code.B2k (by kernel_rfl) hv1 hc1
 rw[if_neg h0] at hn
 by_cases h0:n=2
 ·rw[if_pos h0] at hn
  simp only[Option.some.injEq] at hn
  subst h0
  subst hn
  exact Code.B2k (by kernel_rfl) hv2 hc2
 rw[if_neg h0] at hn
 by_cases h0:n=0
 ·rw[if_pos h0] at hn
  simp only[Option.some.injEq] at hn
  subst h0
  subst hn
  exact kk
 rw[if_neg h0] at hn
 simp at hn
theorem lifted (os:Os) (started:os.Started) (H:Type) (enc:TypeId×Value→H):
  ReturnsInHanded {} Tryz.checked os 3 .any (fun w args=> (Rows.fnDoKindSpec.pre enc Tryz.prog Tryz.f3 [] false w args∧laidMetH Tryz.prog Xt w)∧sizedMet enc Tryz.prog Tryz.f3 (OpenSpec.ofChange Rows.fnDoKindSpec) false w args) (Rows.fnDoKindSpec.post enc Tryz.prog Tryz.f3 false true false false):=by
 refine returnsInHanded_of_change_and (C:=Tryz.checked) (X:=fun w _=>laidMetH Tryz.prog Xt w) (fun _ _ _ hh h=>h.of_heap hh) own started (by kernel_rfl) Tryz.func3
  (ChangeSpec.witness_shaped (enc:=enc) (C:=Tryz.checked) (os:=os) (X:=fun w _=>laidMetH Tryz.prog Xt w) false (World.doorLaid Tryz.prog 62 os) #[.slice none 0 0] 8 rfl (World.shaped_of_RefB (by kernel_rfl) (by kernel_rfl)) (by kernel_rfl) (by kernel_rfl) (by kernel_rfl) (door_met os _)) ?_
 intro W base args ds gs before hval0 hW hcnd hsz0 hL _
 have hG:=gr_of_laid hL
 have hsz: (DataW.weightsEach Tryz.prog (Tryz.f3.params.toList++Rows.fnDoKindSpec.plain.varTypes Tryz.prog) (ds++gs)).all (·≤reachBytes)=true:=hsz0
 have hval: ∀ (j:Nat) t v,Tryz.f3.params[j]? =some t→args[j]? =some v→Value.okWide Tryz.prog W .any base t v:=hval0
 have hW':=hW
 obtain⟨p,q,hA0,hV,rfl,hfz,hnd⟩:=hW'
 have hA:DataW.TrodAll enc Tryz.prog W 0 (fun _=>true) true Tryz.f3.params.toList args.toList ds p:=hA0
 rw[Tryz.params3] at hA hval hsz
 obtain⟨v0,vs0,d0,ds0,p0,q0,hargs,rfl,rfl,h0,r0⟩:=trodAll_cons hA
 obtain⟨rfl,rfl,rfl⟩:=trodAll_nil r0
 obtain rfl:args= #[v0]:=by cases args;simp_all
 obtain⟨gg,tg,csg,fug,dg,pg,rfl,hg1,hg2,hg3,hg4,rfl⟩:=trodVars_one hV
 obtain rfl:gg=0:=Option.some.inj (hg1.symm.trans (by kernel_rfl))
 obtain rfl:tg=28:=Option.some.inj (hg2.symm.trans (by kernel_rfl))
 have kg:DataW.Trod enc Tryz.prog W 0 (fun _=>true) true 28 (.agg csg) dg pg:=⟨fug,hg4⟩
 have ltg: ∀x∈pg,x.block<W.heap.size:=DataW.trod_lt fug _ _ _ hg4
 obtain⟨a0,len0,cap0,rfl⟩:=okWide_slice Tryz.underlying22 (hval 0 22 v0 rfl rfl)
 have k0:=h0
 have lt0: ∀x∈p0,x.block<W.heap.size:=by obtain⟨m,hm⟩:=k0;exact DataW.trod_lt m _ _ _ hm
 obtain⟨z0,w0⟩: ∃zs,Go.Ev.Brf .u8 W a0 len0 cap0 zs:=by
  obtain⟨fuel,hf⟩:=h0
  rcases open_ints Tryz.underlying22 Tryz.underlying5 (by kernel_rfl) hf with⟨hcs,_⟩ | ⟨x,l,c,zs,hcs,_,hl,hm,hz,_,hcell,hwz⟩
  ·simp[Value.cells] at hcs
   obtain⟨rfl,rfl,rfl⟩:=hcs
   exact⟨[], .inl ⟨rfl,rfl,rfl,rfl⟩⟩
  ·simp[Value.cells] at hcs
   obtain⟨rfl,rfl,rfl⟩:=hcs
   exact⟨zs, .inr ⟨_,rfl,hl,hm,by simpa using hz,hcell,hwz⟩⟩
 clear hA0 hval0 hsz0 hsz
 refine(Code.fnDoKind.answers a0 len0 cap0 z0 W w0 hG).mono fun e W' ⟨he,bel⟩=> ?_
 subst he
 obtain⟨fug2,hg5⟩:=Below.trod laidOut (by kernel_rfl) (of_decide_eq_true (by kernel_rfl)) kg bel ltg
 exact⟨_,rfl,_,_,_,[],_,_,hW,trodAll_mk1 (shut_bool Tryz.underlying4 _),(trodAll_cons_mk (Below.trod laidOut (by kernel_rfl) (of_decide_eq_true (by kernel_rfl)) k0 bel lt0) trodAll_mk0),trodVars_mk1 hg1 hg2 (Code.B2o hg3 bel) hg5,bel.frame _,fun h=>by cases h⟩
theorem and_mk {a b:Bool} (ha:a=true) (hb:b=true): (a&&b)=true:=by rw[ha,hb];rfl
set_option maxHeartbeats 20000000 in
theorem facts:joinedFacts Tryz.prog 3 Tryz.f3 Rows.fnDoKindSpec Rows.fnDoKindRow=true:=by
 unfold joinedFacts
 refine and_mk (and_mk (and_mk (and_mk (and_mk (and_mk (and_mk (and_mk (and_mk (and_mk (and_mk (and_mk (and_mk (and_mk (and_mk (and_mk (and_mk (and_mk (and_mk (and_mk (and_mk (and_mk (and_mk (and_mk (and_mk (and_mk (and_mk (and_mk (and_mk (and_mk (and_mk ?_ ?_) ?_) ?_) ?_) ?_) ?_) ?_) ?_) ?_) ?_) ?_) ?_) ?_) ?_) ?_) ?_) ?_) ?_) ?_) ?_) ?_) ?_) ?_) ?_) ?_) ?_) ?_) ?_) ?_) ?_) ?_
 all_goals (as_aux_lemma=>kernel_rfl)
theorem goes:false=Rows.fnDoKindRow.goesBy Tryz.prog:=by kernel_rfl
theorem byText:Rows.fnDoKindRow.wfByText (OpenSpec.ofChange Rows.fnDoKindSpec)=true:=by kernel_rfl
theorem proved:Rows.fnDoKindRow.holds Tryz.pinned (OpenSpec.ofChange Rows.fnDoKindSpec):=
 OpenClaim.holds_of_wide 3 Tryz.f3 rfl rfl rfl rfl rfl rfl rfl ⟨rfl,rfl,rfl,rfl,rfl⟩ rfl rfl rfl rfl rfl (by kernel_rfl) Tryz.func3 facts
  (of_decide_eq_true (by kernel_rfl)) (by unfold Func.isWrapper;first| (rw[if_pos (by decide+kernel)];kernel_rfl) | (rw[if_neg (by decide+kernel)];exact⟨rfl,rfl⟩))
  (fun os started H enc _=>lifted os started H enc)
set_option maxHeartbeats 20000000 in
theorem card:Claim7.holds Tryz.pinned (.plain (OpenSpec.ofChange Rows.fnDoKindSpec)) Rows.fnDoKindCard:=
 Claim7.holds_tied_plain_at .later [] [.data, .data, .data, .sentinel, .sentinel, .data] true (true,"ccd4f7d13cc74f0b635ce4524fc11da4dbf98884c12d92856f9d66a156797963") true
  proved (fun _ h=>by cases h) byText (fun _ h=>by cases h) fnDoKind_row_tie rfl ⟨rfl,rfl⟩ (by as_aux_lemma=>kernel_rfl) rfl
  (fun f fn hf hfn=>by
   obtain rfl:f=3:=Option.some.inj ((show Tryz.prog.funcNamed "loop.example/quincunx/laws.FnDoKind"=some 3 by kernel_rfl).symm.trans hf) |>.symm
   obtain rfl:fn=Tryz.f3:=(Option.some.inj (Tryz.func3.symm.trans hfn)).symm
   exact⟨by as_aux_lemma=>kernel_rfl,fun j t ht=>by
    rw[Tryz.params3] at ht
    have hm:t∈[22]:=by simpa using Array.mem_of_getElem? ht
    have hall: ([22].all fun u=> !Tryz.prog.wantsStandIn u)=true:=by kernel_rfl
    exact(show Tryz.prog.wantsStandIn t=false by simpa using List.all_eq_true.1 hall t hm)⟩)
  goes
end Go.Proofs.YtpajcoanfkeibaaGreatDoor.fnDoKind
namespace Go.Proofs.YtpajcoanfkeibaaGreatDoor
theorem fnDoKind_holds:Rows.FnDoKindCardSaid:=fnDoKind.card
end Go.Proofs.YtpajcoanfkeibaaGreatDoor

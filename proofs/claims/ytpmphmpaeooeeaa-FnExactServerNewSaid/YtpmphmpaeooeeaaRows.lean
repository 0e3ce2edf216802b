/-
  No cell of these rows narrows 'for every input' (looked for: loops, veiled, ifaces, maps, wideKeys, modest, calm, conditions, laid).
  DERIVED. THE GIVEN ROWS OF THIS SEAT. 8 by the template 'for every input the law returns true; each argument reads behind the call as it read before'; 0 by the template 'total and deterministic' (their statements: YtpmphmpaeooeeaaTotals.lean).
  GIVEN WITH THE SEED: the statements are not yours to turn. If you find one false, say at which input.
  Laid BY PROGRAM, IN A SANDBOX (cutbox-rows.mjs): the forced cells as the released guide's own fill.sh prints them over the translation 7d3cc443fcbd9f0b… (all of the seat's roots in one cut). By AI agents, Wed Nov 11 2026. No macro, syntax, notation, axiom, sorry.
-/
import Derived.Test.YtpmphmpaeooeeaaChecked
import GoSem.Claim
import GoSem.ClaimJoined
import GoSem.ClaimMapViews
import Derived.JoinedTies
import Derived.KernelRfl
namespace Go.Proofs.Ytpmphmpaeooeeaa
/- THE CELL 'sum', in the pinned program and in every row, IS THE sha256 OF THE DUMP (.gsa) THAT YtpmphmpaeooeeaaProg.lean LOADS. Nothing in Lean hashes anything: it is a label: what it is worth is what the hold of that sum in a sandbox is worth. -/
noncomputable def Try.pinned : Pinned := { name := "ytpmphmpaeooeeaa", sum := "7d3cc443fcbd9f0b99dee05446778522edcd2a9410193c64b81581ea537e30a4", checked := Try.checked }
namespace Rows
def none {H : Type} : Left H := { results := [], args := [] }

/-- 'laws.FnExactTextBitGet': WHATEVER THE INPUT: true; the input reads as it did. -/
def fnExactTextBitGetSpec : ChangeSpec := { name := "fnExactTextBitGet", fn := fun _ => fun
  | [d1, d2] => { results := [.lit (.bool true)], args := [d1, d2] }
  | _ => none }
def fnExactTextBitGetRow : OpenClaim := { program := "ytpmphmpaeooeeaa", sum := "7d3cc443fcbd9f0b99dee05446778522edcd2a9410193c64b81581ea537e30a4", func := "loop.example/quincunx/laws.FnExactTextBitGet", spec := "fnExactTextBitGet", apart := false }
def FnExactTextBitGetSaid : Prop := fnExactTextBitGetRow.holds Try.pinned (OpenSpec.ofChange fnExactTextBitGetSpec)

/-- ITS FALSE NEIGHBOUR: 'it returns false'. Refute it at one input. -/
def fnExactTextBitGetWrong : ChangeSpec := { name := "fnExactTextBitGet", fn := fun _ => fun
  | [d1, d2] => { results := [.lit (.bool false)], args := [d1, d2] }
  | _ => none }
def FnExactTextBitGetWrongFalsely : Prop := fnExactTextBitGetRow.holds Try.pinned (OpenSpec.ofChange fnExactTextBitGetWrong)

/-- 'laws.FnExactTextBitFind': WHATEVER THE INPUT: true; the input reads as it did. -/
def fnExactTextBitFindSpec : ChangeSpec := { name := "fnExactTextBitFind", fn := fun _ => fun
  | [d1, d2] => { results := [.lit (.bool true)], args := [d1, d2] }
  | _ => none }
def fnExactTextBitFindRow : OpenClaim := { program := "ytpmphmpaeooeeaa", sum := "7d3cc443fcbd9f0b99dee05446778522edcd2a9410193c64b81581ea537e30a4", func := "loop.example/quincunx/laws.FnExactTextBitFind", spec := "fnExactTextBitFind", apart := false }
def FnExactTextBitFindSaid : Prop := fnExactTextBitFindRow.holds Try.pinned (OpenSpec.ofChange fnExactTextBitFindSpec)

/-- ITS FALSE NEIGHBOUR: 'it returns false'. Refute it at one input. -/
def fnExactTextBitFindWrong : ChangeSpec := { name := "fnExactTextBitFind", fn := fun _ => fun
  | [d1, d2] => { results := [.lit (.bool false)], args := [d1, d2] }
  | _ => none }
def FnExactTextBitFindWrongFalsely : Prop := fnExactTextBitFindRow.holds Try.pinned (OpenSpec.ofChange fnExactTextBitFindWrong)

/-- 'laws.FnExactListAt': WHATEVER THE INPUT: true; the input reads as it did. -/
def fnExactListAtSpec : ChangeSpec := { name := "fnExactListAt", fn := fun _ => fun
  | [d1, d2] => { results := [.lit (.bool true)], args := [d1, d2] }
  | _ => none }
def fnExactListAtRow : OpenClaim := { program := "ytpmphmpaeooeeaa", sum := "7d3cc443fcbd9f0b99dee05446778522edcd2a9410193c64b81581ea537e30a4", func := "loop.example/quincunx/laws.FnExactListAt", spec := "fnExactListAt", apart := false }
def FnExactListAtSaid : Prop := fnExactListAtRow.holds Try.pinned (OpenSpec.ofChange fnExactListAtSpec)

/-- ITS FALSE NEIGHBOUR: 'it returns false'. Refute it at one input. -/
def fnExactListAtWrong : ChangeSpec := { name := "fnExactListAt", fn := fun _ => fun
  | [d1, d2] => { results := [.lit (.bool false)], args := [d1, d2] }
  | _ => none }
def FnExactListAtWrongFalsely : Prop := fnExactListAtRow.holds Try.pinned (OpenSpec.ofChange fnExactListAtWrong)

/-- 'laws.FnExactTextBitCount': WHATEVER THE INPUT: true; the input reads as it did. -/
def fnExactTextBitCountSpec : ChangeSpec := { name := "fnExactTextBitCount", fn := fun _ => fun
  | [d1, d2, d3] => { results := [.lit (.bool true)], args := [d1, d2, d3] }
  | _ => none }
def fnExactTextBitCountRow : OpenClaim := { program := "ytpmphmpaeooeeaa", sum := "7d3cc443fcbd9f0b99dee05446778522edcd2a9410193c64b81581ea537e30a4", func := "loop.example/quincunx/laws.FnExactTextBitCount", spec := "fnExactTextBitCount", apart := false }
def FnExactTextBitCountSaid : Prop := fnExactTextBitCountRow.holds Try.pinned (OpenSpec.ofChange fnExactTextBitCountSpec)

/-- ITS FALSE NEIGHBOUR: 'it returns false'. Refute it at one input. -/
def fnExactTextBitCountWrong : ChangeSpec := { name := "fnExactTextBitCount", fn := fun _ => fun
  | [d1, d2, d3] => { results := [.lit (.bool false)], args := [d1, d2, d3] }
  | _ => none }
def FnExactTextBitCountWrongFalsely : Prop := fnExactTextBitCountRow.holds Try.pinned (OpenSpec.ofChange fnExactTextBitCountWrong)

/-- 'laws.FnListAt': WHATEVER THE INPUT: true; the input reads as it did. -/
def fnListAtSpec : ChangeSpec := { name := "fnListAt", fn := fun _ => fun
  | [d] => { results := [.lit (.bool true)], args := [d] }
  | _ => none }
def fnListAtRow : OpenClaim := { program := "ytpmphmpaeooeeaa", sum := "7d3cc443fcbd9f0b99dee05446778522edcd2a9410193c64b81581ea537e30a4", func := "loop.example/quincunx/laws.FnListAt", spec := "fnListAt", recurses := true, apart := false }
def FnListAtSaid : Prop := fnListAtRow.holds Try.pinned (OpenSpec.ofChange fnListAtSpec)

/-- ITS FALSE NEIGHBOUR: 'it returns false'. Refute it at one input. -/
def fnListAtWrong : ChangeSpec := { name := "fnListAt", fn := fun _ => fun
  | [d] => { results := [.lit (.bool false)], args := [d] }
  | _ => none }
def FnListAtWrongFalsely : Prop := fnListAtRow.holds Try.pinned (OpenSpec.ofChange fnListAtWrong)

/-- 'laws.FnTextBitFind': WHATEVER THE INPUT: true; the input reads as it did. -/
def fnTextBitFindSpec : ChangeSpec := { name := "fnTextBitFind", fn := fun _ => fun
  | [d] => { results := [.lit (.bool true)], args := [d] }
  | _ => none }
def fnTextBitFindRow : OpenClaim := { program := "ytpmphmpaeooeeaa", sum := "7d3cc443fcbd9f0b99dee05446778522edcd2a9410193c64b81581ea537e30a4", func := "loop.example/quincunx/laws.FnTextBitFind", spec := "fnTextBitFind", apart := false }
def FnTextBitFindSaid : Prop := fnTextBitFindRow.holds Try.pinned (OpenSpec.ofChange fnTextBitFindSpec)

/-- ITS FALSE NEIGHBOUR: 'it returns false'. Refute it at one input. -/
def fnTextBitFindWrong : ChangeSpec := { name := "fnTextBitFind", fn := fun _ => fun
  | [d] => { results := [.lit (.bool false)], args := [d] }
  | _ => none }
def FnTextBitFindWrongFalsely : Prop := fnTextBitFindRow.holds Try.pinned (OpenSpec.ofChange fnTextBitFindWrong)

/-- 'laws.FnOrderPart': WHATEVER THE INPUT: true; the input reads as it did. -/
def fnOrderPartSpec : ChangeSpec := { name := "fnOrderPart", fn := fun _ => fun
  | [d1, d2] => { results := [.lit (.bool true)], args := [d1, d2] }
  | _ => none }
def fnOrderPartRow : OpenClaim := { program := "ytpmphmpaeooeeaa", sum := "7d3cc443fcbd9f0b99dee05446778522edcd2a9410193c64b81581ea537e30a4", func := "loop.example/quincunx/laws.FnOrderPart", spec := "fnOrderPart", recurses := true, apart := false }
def FnOrderPartSaid : Prop := fnOrderPartRow.holds Try.pinned (OpenSpec.ofChange fnOrderPartSpec)

/-- ITS FALSE NEIGHBOUR: 'it returns false'. Refute it at one input. -/
def fnOrderPartWrong : ChangeSpec := { name := "fnOrderPart", fn := fun _ => fun
  | [d1, d2] => { results := [.lit (.bool false)], args := [d1, d2] }
  | _ => none }
def FnOrderPartWrongFalsely : Prop := fnOrderPartRow.holds Try.pinned (OpenSpec.ofChange fnOrderPartWrong)

/-- 'laws.FnExactServerNew': WHATEVER THE INPUT: true; the input reads as it did. -/
def fnExactServerNewSpec : ChangeSpec := { name := "fnExactServerNew", fn := fun _ => fun
  | [d] => { results := [.lit (.bool true)], args := [d] }
  | _ => none }
def fnExactServerNewRow : OpenClaim := { program := "ytpmphmpaeooeeaa", sum := "7d3cc443fcbd9f0b99dee05446778522edcd2a9410193c64b81581ea537e30a4", func := "loop.example/quincunx/laws.FnExactServerNew", spec := "fnExactServerNew", apart := false }
def FnExactServerNewSaid : Prop := fnExactServerNewRow.holds Try.pinned (OpenSpec.ofChange fnExactServerNewSpec)

/-- ITS FALSE NEIGHBOUR: 'it returns false'. Refute it at one input. -/
def fnExactServerNewWrong : ChangeSpec := { name := "fnExactServerNew", fn := fun _ => fun
  | [d] => { results := [.lit (.bool false)], args := [d] }
  | _ => none }
def FnExactServerNewWrongFalsely : Prop := fnExactServerNewRow.holds Try.pinned (OpenSpec.ofChange fnExactServerNewWrong)

/- THE SECOND FORM. 'bulk': how many values and letters a reading holds, each counted each time it is reached (what is shared counts as often as it is met; a slice's spare places count too). A statement '..UptoSaid' is the law's where the arguments, and the package variables that the reading takes, are together of bulk at most 1048576: NARROWER than '..Said'. Prove '..Said' where nothing that the law and all that it calls make is longer than what came in: it says more and counts as full. Else prove '..UptoSaid'. A law counts once. -/
mutual
def uptoBulk {H : Type} : DataW H → Nat
  | .lit (.string bytes) => bytes.length + 1
  | .lit _ => 1
  | .nil => 1
  | .ptr d => uptoBulk d + 1
  | .slice elems spare => uptoBulkAll elems + uptoBulkAll spare + 1
  | .agg parts => uptoBulkAll parts + 1
  | .iface _ d => uptoBulk d + 1
  | .map entries => uptoBulkEntries entries + 1
  | .held _ => 1
def uptoBulkAll {H : Type} : List (DataW H) → Nat
  | [] => 0
  | d :: r => uptoBulk d + uptoBulkAll r
def uptoBulkEntries {H : Type} : List (Lit × DataW H) → Nat
  | [] => 0
  | x :: r => uptoBulkEntry x + uptoBulkEntries r
def uptoBulkEntry {H : Type} : Lit × DataW H → Nat
  | (.string bytes, d) => bytes.length + uptoBulk d + 1
  | (_, d) => uptoBulk d + 1
 end
def uptoSmall : (H : Type) → List (DataW H) → Bool := fun _ ds => decide (uptoBulkAll ds ≤ 1048576)
def OpenSpec.upto (s : _root_.Go.ChangeSpec) : _root_.Go.OpenSpec := { _root_.Go.OpenSpec.ofChange s with cond := some uptoSmall }

/-- 'laws.FnExactTextBitGet', WHERE WHAT IT READS IS OF BULK AT MOST 1048576: true; the input reads as it did. -/
def fnExactTextBitGetUptoRow : OpenClaim := { program := "ytpmphmpaeooeeaa", sum := "7d3cc443fcbd9f0b99dee05446778522edcd2a9410193c64b81581ea537e30a4", func := "loop.example/quincunx/laws.FnExactTextBitGet", spec := "fnExactTextBitGet", apart := false, narrowed := true }
def FnExactTextBitGetUptoSaid : Prop := fnExactTextBitGetUptoRow.holds Try.pinned (OpenSpec.upto fnExactTextBitGetSpec)

/-- 'laws.FnExactTextBitFind', WHERE WHAT IT READS IS OF BULK AT MOST 1048576: true; the input reads as it did. -/
def fnExactTextBitFindUptoRow : OpenClaim := { program := "ytpmphmpaeooeeaa", sum := "7d3cc443fcbd9f0b99dee05446778522edcd2a9410193c64b81581ea537e30a4", func := "loop.example/quincunx/laws.FnExactTextBitFind", spec := "fnExactTextBitFind", apart := false, narrowed := true }
def FnExactTextBitFindUptoSaid : Prop := fnExactTextBitFindUptoRow.holds Try.pinned (OpenSpec.upto fnExactTextBitFindSpec)

/-- 'laws.FnExactListAt', WHERE WHAT IT READS IS OF BULK AT MOST 1048576: true; the input reads as it did. -/
def fnExactListAtUptoRow : OpenClaim := { program := "ytpmphmpaeooeeaa", sum := "7d3cc443fcbd9f0b99dee05446778522edcd2a9410193c64b81581ea537e30a4", func := "loop.example/quincunx/laws.FnExactListAt", spec := "fnExactListAt", apart := false, narrowed := true }
def FnExactListAtUptoSaid : Prop := fnExactListAtUptoRow.holds Try.pinned (OpenSpec.upto fnExactListAtSpec)

/-- 'laws.FnExactTextBitCount', WHERE WHAT IT READS IS OF BULK AT MOST 1048576: true; the input reads as it did. -/
def fnExactTextBitCountUptoRow : OpenClaim := { program := "ytpmphmpaeooeeaa", sum := "7d3cc443fcbd9f0b99dee05446778522edcd2a9410193c64b81581ea537e30a4", func := "loop.example/quincunx/laws.FnExactTextBitCount", spec := "fnExactTextBitCount", apart := false, narrowed := true }
def FnExactTextBitCountUptoSaid : Prop := fnExactTextBitCountUptoRow.holds Try.pinned (OpenSpec.upto fnExactTextBitCountSpec)

/-- 'laws.FnListAt', WHERE WHAT IT READS IS OF BULK AT MOST 1048576: true; the input reads as it did. -/
def fnListAtUptoRow : OpenClaim := { program := "ytpmphmpaeooeeaa", sum := "7d3cc443fcbd9f0b99dee05446778522edcd2a9410193c64b81581ea537e30a4", func := "loop.example/quincunx/laws.FnListAt", spec := "fnListAt", recurses := true, apart := false, narrowed := true }
def FnListAtUptoSaid : Prop := fnListAtUptoRow.holds Try.pinned (OpenSpec.upto fnListAtSpec)

/-- 'laws.FnTextBitFind', WHERE WHAT IT READS IS OF BULK AT MOST 1048576: true; the input reads as it did. -/
def fnTextBitFindUptoRow : OpenClaim := { program := "ytpmphmpaeooeeaa", sum := "7d3cc443fcbd9f0b99dee05446778522edcd2a9410193c64b81581ea537e30a4", func := "loop.example/quincunx/laws.FnTextBitFind", spec := "fnTextBitFind", apart := false, narrowed := true }
def FnTextBitFindUptoSaid : Prop := fnTextBitFindUptoRow.holds Try.pinned (OpenSpec.upto fnTextBitFindSpec)

/-- 'laws.FnOrderPart', WHERE WHAT IT READS IS OF BULK AT MOST 1048576: true; the input reads as it did. -/
def fnOrderPartUptoRow : OpenClaim := { program := "ytpmphmpaeooeeaa", sum := "7d3cc443fcbd9f0b99dee05446778522edcd2a9410193c64b81581ea537e30a4", func := "loop.example/quincunx/laws.FnOrderPart", spec := "fnOrderPart", recurses := true, apart := false, narrowed := true }
def FnOrderPartUptoSaid : Prop := fnOrderPartUptoRow.holds Try.pinned (OpenSpec.upto fnOrderPartSpec)

/-- 'laws.FnExactServerNew', WHERE WHAT IT READS IS OF BULK AT MOST 1048576: true; the input reads as it did. -/
def fnExactServerNewUptoRow : OpenClaim := { program := "ytpmphmpaeooeeaa", sum := "7d3cc443fcbd9f0b99dee05446778522edcd2a9410193c64b81581ea537e30a4", func := "loop.example/quincunx/laws.FnExactServerNew", spec := "fnExactServerNew", apart := false, narrowed := true }
def FnExactServerNewUptoSaid : Prop := fnExactServerNewUptoRow.holds Try.pinned (OpenSpec.upto fnExactServerNewSpec)

end Rows
end Go.Proofs.Ytpmphmpaeooeeaa

/-
  No cell of these rows narrows 'for every input' (looked for: loops, veiled, ifaces, maps, wideKeys, modest, calm, conditions, laid).
  DERIVED. THE GIVEN ROWS OF THIS SEAT. 4 by the template 'for every input the law returns true; each argument reads behind the call as it read before'; 0 by the template 'total and deterministic' (their statements: YtjdmiodinhlchaaGreatTotals.lean).
  GIVEN WITH THE SEED: the statements are not yours to turn. If you find one false, say at which input.
  Laid BY PROGRAM, IN A SANDBOX (cutbox-rows.mjs): the forced cells as the released guide's own fill.sh prints them over the translation aba6cccb97c8b8a7… (all of the seat's roots in one cut). By AI agents, Wed Nov 11 2026. No macro, syntax, notation, axiom, sorry.
-/
import Derived.Test.YtjdmiodinhlchaaGreatChecked
import GoSem.Claim
import GoSem.ClaimJoined
import GoSem.ClaimMapViews
import Derived.JoinedTies
import Derived.KernelRfl
namespace Go.Proofs.YtjdmiodinhlchaaGreat
/- THE CELL 'sum', in the pinned program and in every row, IS THE sha256 OF THE DUMP (.gsa) THAT YtjdmiodinhlchaaGreatProg.lean LOADS. Nothing in Lean hashes anything: it is a label: what it is worth is what the hold of that sum in a sandbox is worth. -/
noncomputable def Tryz.pinned : Pinned := { name := "ytjdmiodinhlchaagreat", sum := "aba6cccb97c8b8a71700aae1f9334f31c830b8457c3d0a79db65add76e3f1795", checked := Tryz.checked }
namespace Rows
def none {H : Type} : Left H := { results := [], args := [] }

/-- 'laws.FnBaseKeys': WHATEVER THE INPUT: true; the input reads as it did. -/
def fnBaseKeysSpec : ChangeSpec := { name := "fnBaseKeys", fn := fun _ => fun
  | [d] => { results := [.lit (.bool true)], args := [d] }
  | _ => none }
def fnBaseKeysRow : OpenClaim := { program := "ytjdmiodinhlchaagreat", sum := "aba6cccb97c8b8a71700aae1f9334f31c830b8457c3d0a79db65add76e3f1795", func := "loop.example/quincunx/laws.FnBaseKeys", spec := "fnBaseKeys", unfollowed := true, recurses := true, apart := false }
def FnBaseKeysSaid : Prop := fnBaseKeysRow.holds Tryz.pinned (OpenSpec.ofChange fnBaseKeysSpec)

/-- ITS FALSE NEIGHBOUR: 'it returns false'. Refute it at one input. -/
def fnBaseKeysWrong : ChangeSpec := { name := "fnBaseKeys", fn := fun _ => fun
  | [d] => { results := [.lit (.bool false)], args := [d] }
  | _ => none }
def FnBaseKeysWrongFalsely : Prop := fnBaseKeysRow.holds Tryz.pinned (OpenSpec.ofChange fnBaseKeysWrong)

/-- 'laws.FnBaseTick': WHATEVER THE INPUT: true; the input reads as it did. -/
def fnBaseTickSpec : ChangeSpec := { name := "fnBaseTick", fn := fun _ => fun
  | [d1, d2] => { results := [.lit (.bool true)], args := [d1, d2] }
  | _ => none }
def fnBaseTickRow : OpenClaim := { program := "ytjdmiodinhlchaagreat", sum := "aba6cccb97c8b8a71700aae1f9334f31c830b8457c3d0a79db65add76e3f1795", func := "loop.example/quincunx/laws.FnBaseTick", spec := "fnBaseTick", unfollowed := true, recurses := true, apart := false }
def FnBaseTickSaid : Prop := fnBaseTickRow.holds Tryz.pinned (OpenSpec.ofChange fnBaseTickSpec)

/-- ITS FALSE NEIGHBOUR: 'it returns false'. Refute it at one input. -/
def fnBaseTickWrong : ChangeSpec := { name := "fnBaseTick", fn := fun _ => fun
  | [d1, d2] => { results := [.lit (.bool false)], args := [d1, d2] }
  | _ => none }
def FnBaseTickWrongFalsely : Prop := fnBaseTickRow.holds Tryz.pinned (OpenSpec.ofChange fnBaseTickWrong)

/-- 'laws.FnBaseDrop': WHATEVER THE INPUT: true; the input reads as it did. -/
def fnBaseDropSpec : ChangeSpec := { name := "fnBaseDrop", fn := fun _ => fun
  | [d] => { results := [.lit (.bool true)], args := [d] }
  | _ => none }
def fnBaseDropRow : OpenClaim := { program := "ytjdmiodinhlchaagreat", sum := "aba6cccb97c8b8a71700aae1f9334f31c830b8457c3d0a79db65add76e3f1795", func := "loop.example/quincunx/laws.FnBaseDrop", spec := "fnBaseDrop", unfollowed := true, recurses := true, apart := false }
def FnBaseDropSaid : Prop := fnBaseDropRow.holds Tryz.pinned (OpenSpec.ofChange fnBaseDropSpec)

/-- ITS FALSE NEIGHBOUR: 'it returns false'. Refute it at one input. -/
def fnBaseDropWrong : ChangeSpec := { name := "fnBaseDrop", fn := fun _ => fun
  | [d] => { results := [.lit (.bool false)], args := [d] }
  | _ => none }
def FnBaseDropWrongFalsely : Prop := fnBaseDropRow.holds Tryz.pinned (OpenSpec.ofChange fnBaseDropWrong)

/-- 'laws.FnBasePut': WHATEVER THE INPUT: true; the input reads as it did. -/
def fnBasePutSpec : ChangeSpec := { name := "fnBasePut", fn := fun _ => fun
  | [d] => { results := [.lit (.bool true)], args := [d] }
  | _ => none }
def fnBasePutRow : OpenClaim := { program := "ytjdmiodinhlchaagreat", sum := "aba6cccb97c8b8a71700aae1f9334f31c830b8457c3d0a79db65add76e3f1795", func := "loop.example/quincunx/laws.FnBasePut", spec := "fnBasePut", unfollowed := true, recurses := true, apart := false }
def FnBasePutSaid : Prop := fnBasePutRow.holds Tryz.pinned (OpenSpec.ofChange fnBasePutSpec)

/-- ITS FALSE NEIGHBOUR: 'it returns false'. Refute it at one input. -/
def fnBasePutWrong : ChangeSpec := { name := "fnBasePut", fn := fun _ => fun
  | [d] => { results := [.lit (.bool false)], args := [d] }
  | _ => none }
def FnBasePutWrongFalsely : Prop := fnBasePutRow.holds Tryz.pinned (OpenSpec.ofChange fnBasePutWrong)

/- THE SECOND FORM. 'bulk': how many values and letters a reading holds, each counted each time it is reached (what is shared counts as often as it is met; a slice's spare places count too). A statement '..UptoSaid' is the law's where the arguments, and the package variables that the reading takes, are together of bulk at most 1048576: NARROWER than '..Said'. Prove '..Said' where nothing that the law and all that it calls make is longer than what came in: it says more and counts as full. Else prove '..UptoSaid'. A law counts once. -/
mutual
def uptoBulk {H : Type} : DataW H → Nat
  | .lit (.string bytes) => bytes.length + 1
  | .lit _ => 1
  | .nil => 1
  | .ptr d => uptoBulk d + 1
  | .slice elems spare => uptoBulkAll elems + uptoBulkAll spare + 1
  | .agg parts => uptoBulkAll parts + 1
  | .iface _ d => uptoBulk d + 1
  | .map entries => uptoBulkEntries entries + 1
  | .held _ => 1
def uptoBulkAll {H : Type} : List (DataW H) → Nat
  | [] => 0
  | d :: r => uptoBulk d + uptoBulkAll r
def uptoBulkEntries {H : Type} : List (Lit × DataW H) → Nat
  | [] => 0
  | x :: r => uptoBulkEntry x + uptoBulkEntries r
def uptoBulkEntry {H : Type} : Lit × DataW H → Nat
  | (.string bytes, d) => bytes.length + uptoBulk d + 1
  | (_, d) => uptoBulk d + 1
 end
def uptoSmall : (H : Type) → List (DataW H) → Bool := fun _ ds => decide (uptoBulkAll ds ≤ 1048576)
def OpenSpec.upto (s : _root_.Go.ChangeSpec) : _root_.Go.OpenSpec := { _root_.Go.OpenSpec.ofChange s with cond := some uptoSmall }

/-- 'laws.FnBaseKeys', WHERE WHAT IT READS IS OF BULK AT MOST 1048576: true; the input reads as it did. -/
def fnBaseKeysUptoRow : OpenClaim := { program := "ytjdmiodinhlchaagreat", sum := "aba6cccb97c8b8a71700aae1f9334f31c830b8457c3d0a79db65add76e3f1795", func := "loop.example/quincunx/laws.FnBaseKeys", spec := "fnBaseKeys", unfollowed := true, recurses := true, apart := false, narrowed := true }
def FnBaseKeysUptoSaid : Prop := fnBaseKeysUptoRow.holds Tryz.pinned (OpenSpec.upto fnBaseKeysSpec)

/-- 'laws.FnBaseTick', WHERE WHAT IT READS IS OF BULK AT MOST 1048576: true; the input reads as it did. -/
def fnBaseTickUptoRow : OpenClaim := { program := "ytjdmiodinhlchaagreat", sum := "aba6cccb97c8b8a71700aae1f9334f31c830b8457c3d0a79db65add76e3f1795", func := "loop.example/quincunx/laws.FnBaseTick", spec := "fnBaseTick", unfollowed := true, recurses := true, apart := false, narrowed := true }
def FnBaseTickUptoSaid : Prop := fnBaseTickUptoRow.holds Tryz.pinned (OpenSpec.upto fnBaseTickSpec)

/-- 'laws.FnBaseDrop', WHERE WHAT IT READS IS OF BULK AT MOST 1048576: true; the input reads as it did. -/
def fnBaseDropUptoRow : OpenClaim := { program := "ytjdmiodinhlchaagreat", sum := "aba6cccb97c8b8a71700aae1f9334f31c830b8457c3d0a79db65add76e3f1795", func := "loop.example/quincunx/laws.FnBaseDrop", spec := "fnBaseDrop", unfollowed := true, recurses := true, apart := false, narrowed := true }
def FnBaseDropUptoSaid : Prop := fnBaseDropUptoRow.holds Tryz.pinned (OpenSpec.upto fnBaseDropSpec)

/-- 'laws.FnBasePut', WHERE WHAT IT READS IS OF BULK AT MOST 1048576: true; the input reads as it did. -/
def fnBasePutUptoRow : OpenClaim := { program := "ytjdmiodinhlchaagreat", sum := "aba6cccb97c8b8a71700aae1f9334f31c830b8457c3d0a79db65add76e3f1795", func := "loop.example/quincunx/laws.FnBasePut", spec := "fnBasePut", unfollowed := true, recurses := true, apart := false, narrowed := true }
def FnBasePutUptoSaid : Prop := fnBasePutUptoRow.holds Tryz.pinned (OpenSpec.upto fnBasePutSpec)

end Rows
end Go.Proofs.YtjdmiodinhlchaaGreat

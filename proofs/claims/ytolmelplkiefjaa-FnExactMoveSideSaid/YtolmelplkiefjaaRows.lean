/-
  No cell of these rows narrows 'for every input' (looked for: loops, veiled, ifaces, maps, wideKeys, modest, calm, conditions, laid).
  DERIVED. THE GIVEN ROWS OF THIS SEAT. 6 by the template 'for every input the law returns true; each argument reads behind the call as it read before'; 0 by the template 'total and deterministic' (their statements: YtolmelplkiefjaaTotals.lean).
  GIVEN WITH THE SEED: the statements are not yours to turn. If you find one false, say at which input.
  Laid BY PROGRAM, IN A SANDBOX (cutbox-rows.mjs): the forced cells as the released guide's own fill.sh prints them over the translation 7f36998d57dece85… (all of the seat's roots in one cut). By AI agents, Wed Nov 11 2026. No macro, syntax, notation, axiom, sorry.
-/
import Derived.Test.YtolmelplkiefjaaChecked
import GoSem.Claim
import GoSem.ClaimJoined
import GoSem.ClaimMapViews
import Derived.JoinedTies
import Derived.KernelRfl
namespace Go.Proofs.Ytolmelplkiefjaa
/- THE CELL 'sum', in the pinned program and in every row, IS THE sha256 OF THE DUMP (.gsa) THAT YtolmelplkiefjaaProg.lean LOADS. Nothing in Lean hashes anything: it is a label: what it is worth is what the hold of that sum in a sandbox is worth. -/
noncomputable def Try.pinned : Pinned := { name := "ytolmelplkiefjaa", sum := "7f36998d57dece85dbd67803053de24a3dec375a0e294926cb473d6df8f0e53b", checked := Try.checked }
namespace Rows
def none {H : Type} : Left H := { results := [], args := [] }

/-- 'laws.FnExactCodeName': WHATEVER THE INPUT: true; the input reads as it did. -/
def fnExactCodeNameSpec : ChangeSpec := { name := "fnExactCodeName", fn := fun _ => fun
  | [d] => { results := [.lit (.bool true)], args := [d] }
  | _ => none }
def fnExactCodeNameRow : OpenClaim := { program := "ytolmelplkiefjaa", sum := "7f36998d57dece85dbd67803053de24a3dec375a0e294926cb473d6df8f0e53b", func := "loop.example/g01926/laws.FnExactCodeName", spec := "fnExactCodeName", apart := false }
def FnExactCodeNameSaid : Prop := fnExactCodeNameRow.holds Try.pinned (OpenSpec.ofChange fnExactCodeNameSpec)

/-- ITS FALSE NEIGHBOUR: 'it returns false'. Refute it at one input. -/
def fnExactCodeNameWrong : ChangeSpec := { name := "fnExactCodeName", fn := fun _ => fun
  | [d] => { results := [.lit (.bool false)], args := [d] }
  | _ => none }
def FnExactCodeNameWrongFalsely : Prop := fnExactCodeNameRow.holds Try.pinned (OpenSpec.ofChange fnExactCodeNameWrong)

/-- 'laws.FnExactAreSides': WHATEVER THE INPUT: true; the input reads as it did. -/
def fnExactAreSidesSpec : ChangeSpec := { name := "fnExactAreSides", fn := fun _ => fun
  | [d] => { results := [.lit (.bool true)], args := [d] }
  | _ => none }
def fnExactAreSidesRow : OpenClaim := { program := "ytolmelplkiefjaa", sum := "7f36998d57dece85dbd67803053de24a3dec375a0e294926cb473d6df8f0e53b", func := "loop.example/g01926/laws.FnExactAreSides", spec := "fnExactAreSides", unfollowed := true, recurses := true, apart := false }
def FnExactAreSidesSaid : Prop := fnExactAreSidesRow.holds Try.pinned (OpenSpec.ofChange fnExactAreSidesSpec)

/-- ITS FALSE NEIGHBOUR: 'it returns false'. Refute it at one input. -/
def fnExactAreSidesWrong : ChangeSpec := { name := "fnExactAreSides", fn := fun _ => fun
  | [d] => { results := [.lit (.bool false)], args := [d] }
  | _ => none }
def FnExactAreSidesWrongFalsely : Prop := fnExactAreSidesRow.holds Try.pinned (OpenSpec.ofChange fnExactAreSidesWrong)

/-- 'laws.FnExactSameSide': WHATEVER THE INPUT: true; the input reads as it did. -/
def fnExactSameSideSpec : ChangeSpec := { name := "fnExactSameSide", fn := fun _ => fun
  | [d1, d2, d3] => { results := [.lit (.bool true)], args := [d1, d2, d3] }
  | _ => none }
def fnExactSameSideRow : OpenClaim := { program := "ytolmelplkiefjaa", sum := "7f36998d57dece85dbd67803053de24a3dec375a0e294926cb473d6df8f0e53b", func := "loop.example/g01926/laws.FnExactSameSide", spec := "fnExactSameSide", unfollowed := true, recurses := true, apart := false }
def FnExactSameSideSaid : Prop := fnExactSameSideRow.holds Try.pinned (OpenSpec.ofChange fnExactSameSideSpec)

/-- ITS FALSE NEIGHBOUR: 'it returns false'. Refute it at one input. -/
def fnExactSameSideWrong : ChangeSpec := { name := "fnExactSameSide", fn := fun _ => fun
  | [d1, d2, d3] => { results := [.lit (.bool false)], args := [d1, d2, d3] }
  | _ => none }
def FnExactSameSideWrongFalsely : Prop := fnExactSameSideRow.holds Try.pinned (OpenSpec.ofChange fnExactSameSideWrong)

/-- 'laws.FnExactMasterSide': WHATEVER THE INPUT: true; the input reads as it did. -/
def fnExactMasterSideSpec : ChangeSpec := { name := "fnExactMasterSide", fn := fun _ => fun
  | [d] => { results := [.lit (.bool true)], args := [d] }
  | _ => none }
def fnExactMasterSideRow : OpenClaim := { program := "ytolmelplkiefjaa", sum := "7f36998d57dece85dbd67803053de24a3dec375a0e294926cb473d6df8f0e53b", func := "loop.example/g01926/laws.FnExactMasterSide", spec := "fnExactMasterSide", unfollowed := true, recurses := true, apart := false }
def FnExactMasterSideSaid : Prop := fnExactMasterSideRow.holds Try.pinned (OpenSpec.ofChange fnExactMasterSideSpec)

/-- ITS FALSE NEIGHBOUR: 'it returns false'. Refute it at one input. -/
def fnExactMasterSideWrong : ChangeSpec := { name := "fnExactMasterSide", fn := fun _ => fun
  | [d] => { results := [.lit (.bool false)], args := [d] }
  | _ => none }
def FnExactMasterSideWrongFalsely : Prop := fnExactMasterSideRow.holds Try.pinned (OpenSpec.ofChange fnExactMasterSideWrong)

/-- 'laws.FnExactReachableFrom': WHATEVER THE INPUT: true; the input reads as it did. -/
def fnExactReachableFromSpec : ChangeSpec := { name := "fnExactReachableFrom", fn := fun _ => fun
  | [d1, d2] => { results := [.lit (.bool true)], args := [d1, d2] }
  | _ => none }
def fnExactReachableFromRow : OpenClaim := { program := "ytolmelplkiefjaa", sum := "7f36998d57dece85dbd67803053de24a3dec375a0e294926cb473d6df8f0e53b", func := "loop.example/g01926/laws.FnExactReachableFrom", spec := "fnExactReachableFrom", unfollowed := true, recurses := true, apart := false }
def FnExactReachableFromSaid : Prop := fnExactReachableFromRow.holds Try.pinned (OpenSpec.ofChange fnExactReachableFromSpec)

/-- ITS FALSE NEIGHBOUR: 'it returns false'. Refute it at one input. -/
def fnExactReachableFromWrong : ChangeSpec := { name := "fnExactReachableFrom", fn := fun _ => fun
  | [d1, d2] => { results := [.lit (.bool false)], args := [d1, d2] }
  | _ => none }
def FnExactReachableFromWrongFalsely : Prop := fnExactReachableFromRow.holds Try.pinned (OpenSpec.ofChange fnExactReachableFromWrong)

/-- 'laws.FnExactMoveSide': WHATEVER THE INPUT: true; the input reads as it did. -/
def fnExactMoveSideSpec : ChangeSpec := { name := "fnExactMoveSide", fn := fun _ => fun
  | [d1, d2, d3] => { results := [.lit (.bool true)], args := [d1, d2, d3] }
  | _ => none }
def fnExactMoveSideRow : OpenClaim := { program := "ytolmelplkiefjaa", sum := "7f36998d57dece85dbd67803053de24a3dec375a0e294926cb473d6df8f0e53b", func := "loop.example/g01926/laws.FnExactMoveSide", spec := "fnExactMoveSide", unfollowed := true, recurses := true, apart := false }
def FnExactMoveSideSaid : Prop := fnExactMoveSideRow.holds Try.pinned (OpenSpec.ofChange fnExactMoveSideSpec)

/-- ITS FALSE NEIGHBOUR: 'it returns false'. Refute it at one input. -/
def fnExactMoveSideWrong : ChangeSpec := { name := "fnExactMoveSide", fn := fun _ => fun
  | [d1, d2, d3] => { results := [.lit (.bool false)], args := [d1, d2, d3] }
  | _ => none }
def FnExactMoveSideWrongFalsely : Prop := fnExactMoveSideRow.holds Try.pinned (OpenSpec.ofChange fnExactMoveSideWrong)

/- THE SECOND FORM. 'bulk': how many values and letters a reading holds, each counted each time it is reached (what is shared counts as often as it is met; a slice's spare places count too). A statement '..UptoSaid' is the law's where the arguments, and the package variables that the reading takes, are together of bulk at most 1048576: NARROWER than '..Said'. Prove '..Said' where nothing that the law and all that it calls make is longer than what came in: it says more and counts as full. Else prove '..UptoSaid'. A law counts once. -/
mutual
def uptoBulk {H : Type} : DataW H → Nat
  | .lit (.string bytes) => bytes.length + 1
  | .lit _ => 1
  | .nil => 1
  | .ptr d => uptoBulk d + 1
  | .slice elems spare => uptoBulkAll elems + uptoBulkAll spare + 1
  | .agg parts => uptoBulkAll parts + 1
  | .iface _ d => uptoBulk d + 1
  | .map entries => uptoBulkEntries entries + 1
  | .held _ => 1
def uptoBulkAll {H : Type} : List (DataW H) → Nat
  | [] => 0
  | d :: r => uptoBulk d + uptoBulkAll r
def uptoBulkEntries {H : Type} : List (Lit × DataW H) → Nat
  | [] => 0
  | x :: r => uptoBulkEntry x + uptoBulkEntries r
def uptoBulkEntry {H : Type} : Lit × DataW H → Nat
  | (.string bytes, d) => bytes.length + uptoBulk d + 1
  | (_, d) => uptoBulk d + 1
 end
def uptoSmall : (H : Type) → List (DataW H) → Bool := fun _ ds => decide (uptoBulkAll ds ≤ 1048576)
def OpenSpec.upto (s : _root_.Go.ChangeSpec) : _root_.Go.OpenSpec := { _root_.Go.OpenSpec.ofChange s with cond := some uptoSmall }

/-- 'laws.FnExactCodeName', WHERE WHAT IT READS IS OF BULK AT MOST 1048576: true; the input reads as it did. -/
def fnExactCodeNameUptoRow : OpenClaim := { program := "ytolmelplkiefjaa", sum := "7f36998d57dece85dbd67803053de24a3dec375a0e294926cb473d6df8f0e53b", func := "loop.example/g01926/laws.FnExactCodeName", spec := "fnExactCodeName", apart := false, narrowed := true }
def FnExactCodeNameUptoSaid : Prop := fnExactCodeNameUptoRow.holds Try.pinned (OpenSpec.upto fnExactCodeNameSpec)

/-- 'laws.FnExactAreSides', WHERE WHAT IT READS IS OF BULK AT MOST 1048576: true; the input reads as it did. -/
def fnExactAreSidesUptoRow : OpenClaim := { program := "ytolmelplkiefjaa", sum := "7f36998d57dece85dbd67803053de24a3dec375a0e294926cb473d6df8f0e53b", func := "loop.example/g01926/laws.FnExactAreSides", spec := "fnExactAreSides", unfollowed := true, recurses := true, apart := false, narrowed := true }
def FnExactAreSidesUptoSaid : Prop := fnExactAreSidesUptoRow.holds Try.pinned (OpenSpec.upto fnExactAreSidesSpec)

/-- 'laws.FnExactSameSide', WHERE WHAT IT READS IS OF BULK AT MOST 1048576: true; the input reads as it did. -/
def fnExactSameSideUptoRow : OpenClaim := { program := "ytolmelplkiefjaa", sum := "7f36998d57dece85dbd67803053de24a3dec375a0e294926cb473d6df8f0e53b", func := "loop.example/g01926/laws.FnExactSameSide", spec := "fnExactSameSide", unfollowed := true, recurses := true, apart := false, narrowed := true }
def FnExactSameSideUptoSaid : Prop := fnExactSameSideUptoRow.holds Try.pinned (OpenSpec.upto fnExactSameSideSpec)

/-- 'laws.FnExactMasterSide', WHERE WHAT IT READS IS OF BULK AT MOST 1048576: true; the input reads as it did. -/
def fnExactMasterSideUptoRow : OpenClaim := { program := "ytolmelplkiefjaa", sum := "7f36998d57dece85dbd67803053de24a3dec375a0e294926cb473d6df8f0e53b", func := "loop.example/g01926/laws.FnExactMasterSide", spec := "fnExactMasterSide", unfollowed := true, recurses := true, apart := false, narrowed := true }
def FnExactMasterSideUptoSaid : Prop := fnExactMasterSideUptoRow.holds Try.pinned (OpenSpec.upto fnExactMasterSideSpec)

/-- 'laws.FnExactReachableFrom', WHERE WHAT IT READS IS OF BULK AT MOST 1048576: true; the input reads as it did. -/
def fnExactReachableFromUptoRow : OpenClaim := { program := "ytolmelplkiefjaa", sum := "7f36998d57dece85dbd67803053de24a3dec375a0e294926cb473d6df8f0e53b", func := "loop.example/g01926/laws.FnExactReachableFrom", spec := "fnExactReachableFrom", unfollowed := true, recurses := true, apart := false, narrowed := true }
def FnExactReachableFromUptoSaid : Prop := fnExactReachableFromUptoRow.holds Try.pinned (OpenSpec.upto fnExactReachableFromSpec)

/-- 'laws.FnExactMoveSide', WHERE WHAT IT READS IS OF BULK AT MOST 1048576: true; the input reads as it did. -/
def fnExactMoveSideUptoRow : OpenClaim := { program := "ytolmelplkiefjaa", sum := "7f36998d57dece85dbd67803053de24a3dec375a0e294926cb473d6df8f0e53b", func := "loop.example/g01926/laws.FnExactMoveSide", spec := "fnExactMoveSide", unfollowed := true, recurses := true, apart := false, narrowed := true }
def FnExactMoveSideUptoSaid : Prop := fnExactMoveSideUptoRow.holds Try.pinned (OpenSpec.upto fnExactMoveSideSpec)

end Rows
end Go.Proofs.Ytolmelplkiefjaa

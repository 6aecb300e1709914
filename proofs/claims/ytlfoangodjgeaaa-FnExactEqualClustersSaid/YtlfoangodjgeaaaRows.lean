/-
  No cell of these rows narrows 'for every input' (looked for: loops, veiled, ifaces, maps, wideKeys, modest, calm, conditions, laid).
  DERIVED. THE GIVEN ROWS OF THIS SEAT. 3 by the template 'for every input the law returns true; each argument reads behind the call as it read before'; 0 by the template 'total and deterministic' (their statements: YtlfoangodjgeaaaTotals.lean).
  GIVEN WITH THE SEED: the statements are not yours to turn. If you find one false, say at which input.
  Laid BY PROGRAM, IN A SANDBOX (cutbox-rows.mjs): the forced cells as the released guide's own fill.sh prints them over the translation ccd0858f827c1f96… (all of the seat's roots in one cut). By AI agents, Wed Nov 11 2026. No macro, syntax, notation, axiom, sorry.
-/
import Derived.Test.YtlfoangodjgeaaaChecked
import GoSem.Claim
import GoSem.ClaimJoined
import GoSem.ClaimMapViews
import Derived.JoinedTies
import Derived.KernelRfl
namespace Go.Proofs.Ytlfoangodjgeaaa
/- THE CELL 'sum', in the pinned program and in every row, IS THE sha256 OF THE DUMP (.gsa) THAT YtlfoangodjgeaaaProg.lean LOADS. Nothing in Lean hashes anything: it is a label: what it is worth is what the hold of that sum in a sandbox is worth. -/
noncomputable def Try.pinned : Pinned := { name := "ytlfoangodjgeaaa", sum := "ccd0858f827c1f96c1467e271c8a070b78faf264d2dca68e69c1ee16b4e0ab03", checked := Try.checked }
namespace Rows
def none {H : Type} : Left H := { results := [], args := [] }

/-- 'laws.FnExactEqualClusters': WHATEVER THE INPUT: true; the input reads as it did. -/
def fnExactEqualClustersSpec : ChangeSpec := { name := "fnExactEqualClusters", fn := fun _ => fun
  | [d1, d2] => { results := [.lit (.bool true)], args := [d1, d2] }
  | _ => none }
def fnExactEqualClustersRow : OpenClaim := { program := "ytlfoangodjgeaaa", sum := "ccd0858f827c1f96c1467e271c8a070b78faf264d2dca68e69c1ee16b4e0ab03", func := "loop.example/g01926/laws.FnExactEqualClusters", spec := "fnExactEqualClusters", unfollowed := true, recurses := true, apart := false }
def FnExactEqualClustersSaid : Prop := fnExactEqualClustersRow.holds Try.pinned (OpenSpec.ofChange fnExactEqualClustersSpec)

/-- ITS FALSE NEIGHBOUR: 'it returns false'. Refute it at one input. -/
def fnExactEqualClustersWrong : ChangeSpec := { name := "fnExactEqualClusters", fn := fun _ => fun
  | [d1, d2] => { results := [.lit (.bool false)], args := [d1, d2] }
  | _ => none }
def FnExactEqualClustersWrongFalsely : Prop := fnExactEqualClustersRow.holds Try.pinned (OpenSpec.ofChange fnExactEqualClustersWrong)

/-- 'laws.FnExactNewCluster': WHATEVER THE INPUT: true; the input reads as it did. -/
def fnExactNewClusterSpec : ChangeSpec := { name := "fnExactNewCluster", fn := fun _ => fun
  | [d] => { results := [.lit (.bool true)], args := [d] }
  | _ => none }
def fnExactNewClusterRow : OpenClaim := { program := "ytlfoangodjgeaaa", sum := "ccd0858f827c1f96c1467e271c8a070b78faf264d2dca68e69c1ee16b4e0ab03", func := "loop.example/g01926/laws.FnExactNewCluster", spec := "fnExactNewCluster", unfollowed := true, recurses := true, apart := false }
def FnExactNewClusterSaid : Prop := fnExactNewClusterRow.holds Try.pinned (OpenSpec.ofChange fnExactNewClusterSpec)

/-- ITS FALSE NEIGHBOUR: 'it returns false'. Refute it at one input. -/
def fnExactNewClusterWrong : ChangeSpec := { name := "fnExactNewCluster", fn := fun _ => fun
  | [d] => { results := [.lit (.bool false)], args := [d] }
  | _ => none }
def FnExactNewClusterWrongFalsely : Prop := fnExactNewClusterRow.holds Try.pinned (OpenSpec.ofChange fnExactNewClusterWrong)

/-- 'laws.FnExactInstallConfig': WHATEVER THE INPUT: true; the input reads as it did. -/
def fnExactInstallConfigSpec : ChangeSpec := { name := "fnExactInstallConfig", fn := fun _ => fun
  | [d1, d2, d3, d4] => { results := [.lit (.bool true)], args := [d1, d2, d3, d4] }
  | _ => none }
def fnExactInstallConfigRow : OpenClaim := { program := "ytlfoangodjgeaaa", sum := "ccd0858f827c1f96c1467e271c8a070b78faf264d2dca68e69c1ee16b4e0ab03", func := "loop.example/g01926/laws.FnExactInstallConfig", spec := "fnExactInstallConfig", unfollowed := true, recurses := true, apart := false }
def FnExactInstallConfigSaid : Prop := fnExactInstallConfigRow.holds Try.pinned (OpenSpec.ofChange fnExactInstallConfigSpec)

/-- ITS FALSE NEIGHBOUR: 'it returns false'. Refute it at one input. -/
def fnExactInstallConfigWrong : ChangeSpec := { name := "fnExactInstallConfig", fn := fun _ => fun
  | [d1, d2, d3, d4] => { results := [.lit (.bool false)], args := [d1, d2, d3, d4] }
  | _ => none }
def FnExactInstallConfigWrongFalsely : Prop := fnExactInstallConfigRow.holds Try.pinned (OpenSpec.ofChange fnExactInstallConfigWrong)

/- THE SECOND FORM. 'bulk': how many values and letters a reading holds, each counted each time it is reached (what is shared counts as often as it is met; a slice's spare places count too). A statement '..UptoSaid' is the law's where the arguments, and the package variables that the reading takes, are together of bulk at most 1048576: NARROWER than '..Said'. Prove '..Said' where nothing that the law and all that it calls make is longer than what came in: it says more and counts as full. Else prove '..UptoSaid'. A law counts once. -/
mutual
def uptoBulk {H : Type} : DataW H → Nat
  | .lit (.string bytes) => bytes.length + 1
  | .lit _ => 1
  | .nil => 1
  | .ptr d => uptoBulk d + 1
  | .slice elems spare => uptoBulkAll elems + uptoBulkAll spare + 1
  | .agg parts => uptoBulkAll parts + 1
  | .iface _ d => uptoBulk d + 1
  | .map entries => uptoBulkEntries entries + 1
  | .held _ => 1
def uptoBulkAll {H : Type} : List (DataW H) → Nat
  | [] => 0
  | d :: r => uptoBulk d + uptoBulkAll r
def uptoBulkEntries {H : Type} : List (Lit × DataW H) → Nat
  | [] => 0
  | x :: r => uptoBulkEntry x + uptoBulkEntries r
def uptoBulkEntry {H : Type} : Lit × DataW H → Nat
  | (.string bytes, d) => bytes.length + uptoBulk d + 1
  | (_, d) => uptoBulk d + 1
 end
def uptoSmall : (H : Type) → List (DataW H) → Bool := fun _ ds => decide (uptoBulkAll ds ≤ 1048576)
def OpenSpec.upto (s : _root_.Go.ChangeSpec) : _root_.Go.OpenSpec := { _root_.Go.OpenSpec.ofChange s with cond := some uptoSmall }

/-- 'laws.FnExactEqualClusters', WHERE WHAT IT READS IS OF BULK AT MOST 1048576: true; the input reads as it did. -/
def fnExactEqualClustersUptoRow : OpenClaim := { program := "ytlfoangodjgeaaa", sum := "ccd0858f827c1f96c1467e271c8a070b78faf264d2dca68e69c1ee16b4e0ab03", func := "loop.example/g01926/laws.FnExactEqualClusters", spec := "fnExactEqualClusters", unfollowed := true, recurses := true, apart := false, narrowed := true }
def FnExactEqualClustersUptoSaid : Prop := fnExactEqualClustersUptoRow.holds Try.pinned (OpenSpec.upto fnExactEqualClustersSpec)

/-- 'laws.FnExactNewCluster', WHERE WHAT IT READS IS OF BULK AT MOST 1048576: true; the input reads as it did. -/
def fnExactNewClusterUptoRow : OpenClaim := { program := "ytlfoangodjgeaaa", sum := "ccd0858f827c1f96c1467e271c8a070b78faf264d2dca68e69c1ee16b4e0ab03", func := "loop.example/g01926/laws.FnExactNewCluster", spec := "fnExactNewCluster", unfollowed := true, recurses := true, apart := false, narrowed := true }
def FnExactNewClusterUptoSaid : Prop := fnExactNewClusterUptoRow.holds Try.pinned (OpenSpec.upto fnExactNewClusterSpec)

/-- 'laws.FnExactInstallConfig', WHERE WHAT IT READS IS OF BULK AT MOST 1048576: true; the input reads as it did. -/
def fnExactInstallConfigUptoRow : OpenClaim := { program := "ytlfoangodjgeaaa", sum := "ccd0858f827c1f96c1467e271c8a070b78faf264d2dca68e69c1ee16b4e0ab03", func := "loop.example/g01926/laws.FnExactInstallConfig", spec := "fnExactInstallConfig", unfollowed := true, recurses := true, apart := false, narrowed := true }
def FnExactInstallConfigUptoSaid : Prop := fnExactInstallConfigUptoRow.holds Try.pinned (OpenSpec.upto fnExactInstallConfigSpec)

end Rows
end Go.Proofs.Ytlfoangodjgeaaa

/-
  No cell of these rows narrows 'for every input' (looked for: loops, veiled, ifaces, maps, wideKeys, modest, calm, conditions, laid).
  DERIVED. THE GIVEN ROWS OF THIS SEAT. 12 by the template 'for every input the law returns true; each argument reads behind the call as it read before'; 0 by the template 'total and deterministic' (their statements: YtabbjdchnagobaaGreatTotals.lean).
  GIVEN WITH THE SEED: the statements are not yours to turn. If you find one false, say at which input.
  Laid BY PROGRAM, IN A SANDBOX (cutbox-rows.mjs): the forced cells as the released guide's own fill.sh prints them over the translation 3a9afbab114f4682… (all of the seat's roots in one cut). By AI agents, Wed Nov 11 2026. No macro, syntax, notation, axiom, sorry.
-/
import Derived.Test.YtabbjdchnagobaaGreatChecked
import GoSem.Claim
import GoSem.ClaimJoined
import GoSem.ClaimMapViews
import Derived.JoinedTies
import Derived.KernelRfl
namespace Go.Proofs.YtabbjdchnagobaaGreat
/- THE CELL 'sum', in the pinned program and in every row, IS THE sha256 OF THE DUMP (.gsa) THAT YtabbjdchnagobaaGreatProg.lean LOADS. Nothing in Lean hashes anything: it is a label: what it is worth is what the hold of that sum in a sandbox is worth. -/
noncomputable def Tryz.pinned : Pinned := { name := "ytabbjdchnagobaagreat", sum := "3a9afbab114f4682b1fc69b8bd6965debb601fb680529d0f70fa553b09c838b5", checked := Tryz.checked }
namespace Rows
def none {H : Type} : Left H := { results := [], args := [] }

/-- 'laws.FnExactIsValidCluster': WHATEVER THE INPUT: true; the input reads as it did. -/
def fnExactIsValidClusterSpec : ChangeSpec := { name := "fnExactIsValidCluster", fn := fun _ => fun
  | [d] => { results := [.lit (.bool true)], args := [d] }
  | _ => none }
def fnExactIsValidClusterRow : OpenClaim := { program := "ytabbjdchnagobaagreat", sum := "3a9afbab114f4682b1fc69b8bd6965debb601fb680529d0f70fa553b09c838b5", func := "loop.example/g01926/laws.FnExactIsValidCluster", spec := "fnExactIsValidCluster", unfollowed := true, recurses := true, apart := false }
def FnExactIsValidClusterSaid : Prop := fnExactIsValidClusterRow.holds Tryz.pinned (OpenSpec.ofChange fnExactIsValidClusterSpec)

/-- ITS FALSE NEIGHBOUR: 'it returns false'. Refute it at one input. -/
def fnExactIsValidClusterWrong : ChangeSpec := { name := "fnExactIsValidCluster", fn := fun _ => fun
  | [d] => { results := [.lit (.bool false)], args := [d] }
  | _ => none }
def FnExactIsValidClusterWrongFalsely : Prop := fnExactIsValidClusterRow.holds Tryz.pinned (OpenSpec.ofChange fnExactIsValidClusterWrong)

/-- 'laws.FnExactHasIntactReplica': WHATEVER THE INPUT: true; the input reads as it did. -/
def fnExactHasIntactReplicaSpec : ChangeSpec := { name := "fnExactHasIntactReplica", fn := fun _ => fun
  | [d] => { results := [.lit (.bool true)], args := [d] }
  | _ => none }
def fnExactHasIntactReplicaRow : OpenClaim := { program := "ytabbjdchnagobaagreat", sum := "3a9afbab114f4682b1fc69b8bd6965debb601fb680529d0f70fa553b09c838b5", func := "loop.example/g01926/laws.FnExactHasIntactReplica", spec := "fnExactHasIntactReplica", unfollowed := true, recurses := true, apart := false }
def FnExactHasIntactReplicaSaid : Prop := fnExactHasIntactReplicaRow.holds Tryz.pinned (OpenSpec.ofChange fnExactHasIntactReplicaSpec)

/-- ITS FALSE NEIGHBOUR: 'it returns false'. Refute it at one input. -/
def fnExactHasIntactReplicaWrong : ChangeSpec := { name := "fnExactHasIntactReplica", fn := fun _ => fun
  | [d] => { results := [.lit (.bool false)], args := [d] }
  | _ => none }
def FnExactHasIntactReplicaWrongFalsely : Prop := fnExactHasIntactReplicaRow.holds Tryz.pinned (OpenSpec.ofChange fnExactHasIntactReplicaWrong)

/-- 'laws.FnExactPendingCount': WHATEVER THE INPUT: true; the input reads as it did. -/
def fnExactPendingCountSpec : ChangeSpec := { name := "fnExactPendingCount", fn := fun _ => fun
  | [d1, d2] => { results := [.lit (.bool true)], args := [d1, d2] }
  | _ => none }
def fnExactPendingCountRow : OpenClaim := { program := "ytabbjdchnagobaagreat", sum := "3a9afbab114f4682b1fc69b8bd6965debb601fb680529d0f70fa553b09c838b5", func := "loop.example/g01926/laws.FnExactPendingCount", spec := "fnExactPendingCount", unfollowed := true, recurses := true, apart := false }
def FnExactPendingCountSaid : Prop := fnExactPendingCountRow.holds Tryz.pinned (OpenSpec.ofChange fnExactPendingCountSpec)

/-- ITS FALSE NEIGHBOUR: 'it returns false'. Refute it at one input. -/
def fnExactPendingCountWrong : ChangeSpec := { name := "fnExactPendingCount", fn := fun _ => fun
  | [d1, d2] => { results := [.lit (.bool false)], args := [d1, d2] }
  | _ => none }
def FnExactPendingCountWrongFalsely : Prop := fnExactPendingCountRow.holds Tryz.pinned (OpenSpec.ofChange fnExactPendingCountWrong)

/-- 'laws.FnExactCanReadLocally': WHATEVER THE INPUT: true; the input reads as it did. -/
def fnExactCanReadLocallySpec : ChangeSpec := { name := "fnExactCanReadLocally", fn := fun _ => fun
  | [d1, d2] => { results := [.lit (.bool true)], args := [d1, d2] }
  | _ => none }
def fnExactCanReadLocallyRow : OpenClaim := { program := "ytabbjdchnagobaagreat", sum := "3a9afbab114f4682b1fc69b8bd6965debb601fb680529d0f70fa553b09c838b5", func := "loop.example/g01926/laws.FnExactCanReadLocally", spec := "fnExactCanReadLocally", unfollowed := true, recurses := true, apart := false }
def FnExactCanReadLocallySaid : Prop := fnExactCanReadLocallyRow.holds Tryz.pinned (OpenSpec.ofChange fnExactCanReadLocallySpec)

/-- ITS FALSE NEIGHBOUR: 'it returns false'. Refute it at one input. -/
def fnExactCanReadLocallyWrong : ChangeSpec := { name := "fnExactCanReadLocally", fn := fun _ => fun
  | [d1, d2] => { results := [.lit (.bool false)], args := [d1, d2] }
  | _ => none }
def FnExactCanReadLocallyWrongFalsely : Prop := fnExactCanReadLocallyRow.holds Tryz.pinned (OpenSpec.ofChange fnExactCanReadLocallyWrong)

/-- 'laws.FnExactBestSource': WHATEVER THE INPUT: true; the input reads as it did. -/
def fnExactBestSourceSpec : ChangeSpec := { name := "fnExactBestSource", fn := fun _ => fun
  | [d1, d2] => { results := [.lit (.bool true)], args := [d1, d2] }
  | _ => none }
def fnExactBestSourceRow : OpenClaim := { program := "ytabbjdchnagobaagreat", sum := "3a9afbab114f4682b1fc69b8bd6965debb601fb680529d0f70fa553b09c838b5", func := "loop.example/g01926/laws.FnExactBestSource", spec := "fnExactBestSource", unfollowed := true, recurses := true, apart := false }
def FnExactBestSourceSaid : Prop := fnExactBestSourceRow.holds Tryz.pinned (OpenSpec.ofChange fnExactBestSourceSpec)

/-- ITS FALSE NEIGHBOUR: 'it returns false'. Refute it at one input. -/
def fnExactBestSourceWrong : ChangeSpec := { name := "fnExactBestSource", fn := fun _ => fun
  | [d1, d2] => { results := [.lit (.bool false)], args := [d1, d2] }
  | _ => none }
def FnExactBestSourceWrongFalsely : Prop := fnExactBestSourceRow.holds Tryz.pinned (OpenSpec.ofChange fnExactBestSourceWrong)

/-- 'laws.FnExactGroupFormat': WHATEVER THE INPUT: true; the input reads as it did. -/
def fnExactGroupFormatSpec : ChangeSpec := { name := "fnExactGroupFormat", fn := fun _ => fun
  | [d1, d2] => { results := [.lit (.bool true)], args := [d1, d2] }
  | _ => none }
def fnExactGroupFormatRow : OpenClaim := { program := "ytabbjdchnagobaagreat", sum := "3a9afbab114f4682b1fc69b8bd6965debb601fb680529d0f70fa553b09c838b5", func := "loop.example/g01926/laws.FnExactGroupFormat", spec := "fnExactGroupFormat", unfollowed := true, recurses := true, apart := false }
def FnExactGroupFormatSaid : Prop := fnExactGroupFormatRow.holds Tryz.pinned (OpenSpec.ofChange fnExactGroupFormatSpec)

/-- ITS FALSE NEIGHBOUR: 'it returns false'. Refute it at one input. -/
def fnExactGroupFormatWrong : ChangeSpec := { name := "fnExactGroupFormat", fn := fun _ => fun
  | [d1, d2] => { results := [.lit (.bool false)], args := [d1, d2] }
  | _ => none }
def FnExactGroupFormatWrongFalsely : Prop := fnExactGroupFormatRow.holds Tryz.pinned (OpenSpec.ofChange fnExactGroupFormatWrong)

/-- 'laws.FnExactServingPrimary': WHATEVER THE INPUT: true; the input reads as it did. -/
def fnExactServingPrimarySpec : ChangeSpec := { name := "fnExactServingPrimary", fn := fun _ => fun
  | [d] => { results := [.lit (.bool true)], args := [d] }
  | _ => none }
def fnExactServingPrimaryRow : OpenClaim := { program := "ytabbjdchnagobaagreat", sum := "3a9afbab114f4682b1fc69b8bd6965debb601fb680529d0f70fa553b09c838b5", func := "loop.example/g01926/laws.FnExactServingPrimary", spec := "fnExactServingPrimary", unfollowed := true, recurses := true, apart := false }
def FnExactServingPrimarySaid : Prop := fnExactServingPrimaryRow.holds Tryz.pinned (OpenSpec.ofChange fnExactServingPrimarySpec)

/-- ITS FALSE NEIGHBOUR: 'it returns false'. Refute it at one input. -/
def fnExactServingPrimaryWrong : ChangeSpec := { name := "fnExactServingPrimary", fn := fun _ => fun
  | [d] => { results := [.lit (.bool false)], args := [d] }
  | _ => none }
def FnExactServingPrimaryWrongFalsely : Prop := fnExactServingPrimaryRow.holds Tryz.pinned (OpenSpec.ofChange fnExactServingPrimaryWrong)

/-- 'laws.FnExactIsServing': WHATEVER THE INPUT: true; the input reads as it did. -/
def fnExactIsServingSpec : ChangeSpec := { name := "fnExactIsServing", fn := fun _ => fun
  | [d] => { results := [.lit (.bool true)], args := [d] }
  | _ => none }
def fnExactIsServingRow : OpenClaim := { program := "ytabbjdchnagobaagreat", sum := "3a9afbab114f4682b1fc69b8bd6965debb601fb680529d0f70fa553b09c838b5", func := "loop.example/g01926/laws.FnExactIsServing", spec := "fnExactIsServing", unfollowed := true, recurses := true, apart := false }
def FnExactIsServingSaid : Prop := fnExactIsServingRow.holds Tryz.pinned (OpenSpec.ofChange fnExactIsServingSpec)

/-- ITS FALSE NEIGHBOUR: 'it returns false'. Refute it at one input. -/
def fnExactIsServingWrong : ChangeSpec := { name := "fnExactIsServing", fn := fun _ => fun
  | [d] => { results := [.lit (.bool false)], args := [d] }
  | _ => none }
def FnExactIsServingWrongFalsely : Prop := fnExactIsServingRow.holds Tryz.pinned (OpenSpec.ofChange fnExactIsServingWrong)

/-- 'laws.FnExactUpServers': WHATEVER THE INPUT: true; the input reads as it did. -/
def fnExactUpServersSpec : ChangeSpec := { name := "fnExactUpServers", fn := fun _ => fun
  | [d] => { results := [.lit (.bool true)], args := [d] }
  | _ => none }
def fnExactUpServersRow : OpenClaim := { program := "ytabbjdchnagobaagreat", sum := "3a9afbab114f4682b1fc69b8bd6965debb601fb680529d0f70fa553b09c838b5", func := "loop.example/g01926/laws.FnExactUpServers", spec := "fnExactUpServers", unfollowed := true, recurses := true, apart := false }
def FnExactUpServersSaid : Prop := fnExactUpServersRow.holds Tryz.pinned (OpenSpec.ofChange fnExactUpServersSpec)

/-- ITS FALSE NEIGHBOUR: 'it returns false'. Refute it at one input. -/
def fnExactUpServersWrong : ChangeSpec := { name := "fnExactUpServers", fn := fun _ => fun
  | [d] => { results := [.lit (.bool false)], args := [d] }
  | _ => none }
def FnExactUpServersWrongFalsely : Prop := fnExactUpServersRow.holds Tryz.pinned (OpenSpec.ofChange fnExactUpServersWrong)

/-- 'laws.FnExactPrimariesNow': WHATEVER THE INPUT: true; the input reads as it did. -/
def fnExactPrimariesNowSpec : ChangeSpec := { name := "fnExactPrimariesNow", fn := fun _ => fun
  | [d] => { results := [.lit (.bool true)], args := [d] }
  | _ => none }
def fnExactPrimariesNowRow : OpenClaim := { program := "ytabbjdchnagobaagreat", sum := "3a9afbab114f4682b1fc69b8bd6965debb601fb680529d0f70fa553b09c838b5", func := "loop.example/g01926/laws.FnExactPrimariesNow", spec := "fnExactPrimariesNow", unfollowed := true, recurses := true, apart := false }
def FnExactPrimariesNowSaid : Prop := fnExactPrimariesNowRow.holds Tryz.pinned (OpenSpec.ofChange fnExactPrimariesNowSpec)

/-- ITS FALSE NEIGHBOUR: 'it returns false'. Refute it at one input. -/
def fnExactPrimariesNowWrong : ChangeSpec := { name := "fnExactPrimariesNow", fn := fun _ => fun
  | [d] => { results := [.lit (.bool false)], args := [d] }
  | _ => none }
def FnExactPrimariesNowWrongFalsely : Prop := fnExactPrimariesNowRow.holds Tryz.pinned (OpenSpec.ofChange fnExactPrimariesNowWrong)

/-- 'laws.FnExactSourcesFor': WHATEVER THE INPUT: true; the input reads as it did. -/
def fnExactSourcesForSpec : ChangeSpec := { name := "fnExactSourcesFor", fn := fun _ => fun
  | [d1, d2] => { results := [.lit (.bool true)], args := [d1, d2] }
  | _ => none }
def fnExactSourcesForRow : OpenClaim := { program := "ytabbjdchnagobaagreat", sum := "3a9afbab114f4682b1fc69b8bd6965debb601fb680529d0f70fa553b09c838b5", func := "loop.example/g01926/laws.FnExactSourcesFor", spec := "fnExactSourcesFor", unfollowed := true, recurses := true, apart := false }
def FnExactSourcesForSaid : Prop := fnExactSourcesForRow.holds Tryz.pinned (OpenSpec.ofChange fnExactSourcesForSpec)

/-- ITS FALSE NEIGHBOUR: 'it returns false'. Refute it at one input. -/
def fnExactSourcesForWrong : ChangeSpec := { name := "fnExactSourcesFor", fn := fun _ => fun
  | [d1, d2] => { results := [.lit (.bool false)], args := [d1, d2] }
  | _ => none }
def FnExactSourcesForWrongFalsely : Prop := fnExactSourcesForRow.holds Tryz.pinned (OpenSpec.ofChange fnExactSourcesForWrong)

/-- 'laws.FnExactMaySwitch': WHATEVER THE INPUT: true; the input reads as it did. -/
def fnExactMaySwitchSpec : ChangeSpec := { name := "fnExactMaySwitch", fn := fun _ => fun
  | [d1, d2] => { results := [.lit (.bool true)], args := [d1, d2] }
  | _ => none }
def fnExactMaySwitchRow : OpenClaim := { program := "ytabbjdchnagobaagreat", sum := "3a9afbab114f4682b1fc69b8bd6965debb601fb680529d0f70fa553b09c838b5", func := "loop.example/g01926/laws.FnExactMaySwitch", spec := "fnExactMaySwitch", unfollowed := true, recurses := true, apart := false }
def FnExactMaySwitchSaid : Prop := fnExactMaySwitchRow.holds Tryz.pinned (OpenSpec.ofChange fnExactMaySwitchSpec)

/-- ITS FALSE NEIGHBOUR: 'it returns false'. Refute it at one input. -/
def fnExactMaySwitchWrong : ChangeSpec := { name := "fnExactMaySwitch", fn := fun _ => fun
  | [d1, d2] => { results := [.lit (.bool false)], args := [d1, d2] }
  | _ => none }
def FnExactMaySwitchWrongFalsely : Prop := fnExactMaySwitchRow.holds Tryz.pinned (OpenSpec.ofChange fnExactMaySwitchWrong)

/- THE SECOND FORM. 'bulk': how many values and letters a reading holds, each counted each time it is reached (what is shared counts as often as it is met; a slice's spare places count too). A statement '..UptoSaid' is the law's where the arguments, and the package variables that the reading takes, are together of bulk at most 1048576: NARROWER than '..Said'. Prove '..Said' where nothing that the law and all that it calls make is longer than what came in: it says more and counts as full. Else prove '..UptoSaid'. A law counts once. -/
mutual
def uptoBulk {H : Type} : DataW H → Nat
  | .lit (.string bytes) => bytes.length + 1
  | .lit _ => 1
  | .nil => 1
  | .ptr d => uptoBulk d + 1
  | .slice elems spare => uptoBulkAll elems + uptoBulkAll spare + 1
  | .agg parts => uptoBulkAll parts + 1
  | .iface _ d => uptoBulk d + 1
  | .map entries => uptoBulkEntries entries + 1
  | .held _ => 1
def uptoBulkAll {H : Type} : List (DataW H) → Nat
  | [] => 0
  | d :: r => uptoBulk d + uptoBulkAll r
def uptoBulkEntries {H : Type} : List (Lit × DataW H) → Nat
  | [] => 0
  | x :: r => uptoBulkEntry x + uptoBulkEntries r
def uptoBulkEntry {H : Type} : Lit × DataW H → Nat
  | (.string bytes, d) => bytes.length + uptoBulk d + 1
  | (_, d) => uptoBulk d + 1
 end
def uptoSmall : (H : Type) → List (DataW H) → Bool := fun _ ds => decide (uptoBulkAll ds ≤ 1048576)
def OpenSpec.upto (s : _root_.Go.ChangeSpec) : _root_.Go.OpenSpec := { _root_.Go.OpenSpec.ofChange s with cond := some uptoSmall }

/-- 'laws.FnExactIsValidCluster', WHERE WHAT IT READS IS OF BULK AT MOST 1048576: true; the input reads as it did. -/
def fnExactIsValidClusterUptoRow : OpenClaim := { program := "ytabbjdchnagobaagreat", sum := "3a9afbab114f4682b1fc69b8bd6965debb601fb680529d0f70fa553b09c838b5", func := "loop.example/g01926/laws.FnExactIsValidCluster", spec := "fnExactIsValidCluster", unfollowed := true, recurses := true, apart := false, narrowed := true }
def FnExactIsValidClusterUptoSaid : Prop := fnExactIsValidClusterUptoRow.holds Tryz.pinned (OpenSpec.upto fnExactIsValidClusterSpec)

/-- 'laws.FnExactHasIntactReplica', WHERE WHAT IT READS IS OF BULK AT MOST 1048576: true; the input reads as it did. -/
def fnExactHasIntactReplicaUptoRow : OpenClaim := { program := "ytabbjdchnagobaagreat", sum := "3a9afbab114f4682b1fc69b8bd6965debb601fb680529d0f70fa553b09c838b5", func := "loop.example/g01926/laws.FnExactHasIntactReplica", spec := "fnExactHasIntactReplica", unfollowed := true, recurses := true, apart := false, narrowed := true }
def FnExactHasIntactReplicaUptoSaid : Prop := fnExactHasIntactReplicaUptoRow.holds Tryz.pinned (OpenSpec.upto fnExactHasIntactReplicaSpec)

/-- 'laws.FnExactPendingCount', WHERE WHAT IT READS IS OF BULK AT MOST 1048576: true; the input reads as it did. -/
def fnExactPendingCountUptoRow : OpenClaim := { program := "ytabbjdchnagobaagreat", sum := "3a9afbab114f4682b1fc69b8bd6965debb601fb680529d0f70fa553b09c838b5", func := "loop.example/g01926/laws.FnExactPendingCount", spec := "fnExactPendingCount", unfollowed := true, recurses := true, apart := false, narrowed := true }
def FnExactPendingCountUptoSaid : Prop := fnExactPendingCountUptoRow.holds Tryz.pinned (OpenSpec.upto fnExactPendingCountSpec)

/-- 'laws.FnExactCanReadLocally', WHERE WHAT IT READS IS OF BULK AT MOST 1048576: true; the input reads as it did. -/
def fnExactCanReadLocallyUptoRow : OpenClaim := { program := "ytabbjdchnagobaagreat", sum := "3a9afbab114f4682b1fc69b8bd6965debb601fb680529d0f70fa553b09c838b5", func := "loop.example/g01926/laws.FnExactCanReadLocally", spec := "fnExactCanReadLocally", unfollowed := true, recurses := true, apart := false, narrowed := true }
def FnExactCanReadLocallyUptoSaid : Prop := fnExactCanReadLocallyUptoRow.holds Tryz.pinned (OpenSpec.upto fnExactCanReadLocallySpec)

/-- 'laws.FnExactBestSource', WHERE WHAT IT READS IS OF BULK AT MOST 1048576: true; the input reads as it did. -/
def fnExactBestSourceUptoRow : OpenClaim := { program := "ytabbjdchnagobaagreat", sum := "3a9afbab114f4682b1fc69b8bd6965debb601fb680529d0f70fa553b09c838b5", func := "loop.example/g01926/laws.FnExactBestSource", spec := "fnExactBestSource", unfollowed := true, recurses := true, apart := false, narrowed := true }
def FnExactBestSourceUptoSaid : Prop := fnExactBestSourceUptoRow.holds Tryz.pinned (OpenSpec.upto fnExactBestSourceSpec)

/-- 'laws.FnExactGroupFormat', WHERE WHAT IT READS IS OF BULK AT MOST 1048576: true; the input reads as it did. -/
def fnExactGroupFormatUptoRow : OpenClaim := { program := "ytabbjdchnagobaagreat", sum := "3a9afbab114f4682b1fc69b8bd6965debb601fb680529d0f70fa553b09c838b5", func := "loop.example/g01926/laws.FnExactGroupFormat", spec := "fnExactGroupFormat", unfollowed := true, recurses := true, apart := false, narrowed := true }
def FnExactGroupFormatUptoSaid : Prop := fnExactGroupFormatUptoRow.holds Tryz.pinned (OpenSpec.upto fnExactGroupFormatSpec)

/-- 'laws.FnExactServingPrimary', WHERE WHAT IT READS IS OF BULK AT MOST 1048576: true; the input reads as it did. -/
def fnExactServingPrimaryUptoRow : OpenClaim := { program := "ytabbjdchnagobaagreat", sum := "3a9afbab114f4682b1fc69b8bd6965debb601fb680529d0f70fa553b09c838b5", func := "loop.example/g01926/laws.FnExactServingPrimary", spec := "fnExactServingPrimary", unfollowed := true, recurses := true, apart := false, narrowed := true }
def FnExactServingPrimaryUptoSaid : Prop := fnExactServingPrimaryUptoRow.holds Tryz.pinned (OpenSpec.upto fnExactServingPrimarySpec)

/-- 'laws.FnExactIsServing', WHERE WHAT IT READS IS OF BULK AT MOST 1048576: true; the input reads as it did. -/
def fnExactIsServingUptoRow : OpenClaim := { program := "ytabbjdchnagobaagreat", sum := "3a9afbab114f4682b1fc69b8bd6965debb601fb680529d0f70fa553b09c838b5", func := "loop.example/g01926/laws.FnExactIsServing", spec := "fnExactIsServing", unfollowed := true, recurses := true, apart := false, narrowed := true }
def FnExactIsServingUptoSaid : Prop := fnExactIsServingUptoRow.holds Tryz.pinned (OpenSpec.upto fnExactIsServingSpec)

/-- 'laws.FnExactUpServers', WHERE WHAT IT READS IS OF BULK AT MOST 1048576: true; the input reads as it did. -/
def fnExactUpServersUptoRow : OpenClaim := { program := "ytabbjdchnagobaagreat", sum := "3a9afbab114f4682b1fc69b8bd6965debb601fb680529d0f70fa553b09c838b5", func := "loop.example/g01926/laws.FnExactUpServers", spec := "fnExactUpServers", unfollowed := true, recurses := true, apart := false, narrowed := true }
def FnExactUpServersUptoSaid : Prop := fnExactUpServersUptoRow.holds Tryz.pinned (OpenSpec.upto fnExactUpServersSpec)

/-- 'laws.FnExactPrimariesNow', WHERE WHAT IT READS IS OF BULK AT MOST 1048576: true; the input reads as it did. -/
def fnExactPrimariesNowUptoRow : OpenClaim := { program := "ytabbjdchnagobaagreat", sum := "3a9afbab114f4682b1fc69b8bd6965debb601fb680529d0f70fa553b09c838b5", func := "loop.example/g01926/laws.FnExactPrimariesNow", spec := "fnExactPrimariesNow", unfollowed := true, recurses := true, apart := false, narrowed := true }
def FnExactPrimariesNowUptoSaid : Prop := fnExactPrimariesNowUptoRow.holds Tryz.pinned (OpenSpec.upto fnExactPrimariesNowSpec)

/-- 'laws.FnExactSourcesFor', WHERE WHAT IT READS IS OF BULK AT MOST 1048576: true; the input reads as it did. -/
def fnExactSourcesForUptoRow : OpenClaim := { program := "ytabbjdchnagobaagreat", sum := "3a9afbab114f4682b1fc69b8bd6965debb601fb680529d0f70fa553b09c838b5", func := "loop.example/g01926/laws.FnExactSourcesFor", spec := "fnExactSourcesFor", unfollowed := true, recurses := true, apart := false, narrowed := true }
def FnExactSourcesForUptoSaid : Prop := fnExactSourcesForUptoRow.holds Tryz.pinned (OpenSpec.upto fnExactSourcesForSpec)

/-- 'laws.FnExactMaySwitch', WHERE WHAT IT READS IS OF BULK AT MOST 1048576: true; the input reads as it did. -/
def fnExactMaySwitchUptoRow : OpenClaim := { program := "ytabbjdchnagobaagreat", sum := "3a9afbab114f4682b1fc69b8bd6965debb601fb680529d0f70fa553b09c838b5", func := "loop.example/g01926/laws.FnExactMaySwitch", spec := "fnExactMaySwitch", unfollowed := true, recurses := true, apart := false, narrowed := true }
def FnExactMaySwitchUptoSaid : Prop := fnExactMaySwitchUptoRow.holds Tryz.pinned (OpenSpec.upto fnExactMaySwitchSpec)

end Rows
end Go.Proofs.YtabbjdchnagobaaGreat

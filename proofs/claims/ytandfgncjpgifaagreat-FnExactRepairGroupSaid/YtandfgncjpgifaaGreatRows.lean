/-
  No cell of these rows narrows 'for every input' (looked for: loops, veiled, ifaces, maps, wideKeys, modest, calm, conditions, laid).
  DERIVED. THE GIVEN ROWS OF THIS SEAT. 6 by the template 'for every input the law returns true; each argument reads behind the call as it read before'; 0 by the template 'total and deterministic' (their statements: YtandfgncjpgifaaGreatTotals.lean).
  GIVEN WITH THE SEED: the statements are not yours to turn. If you find one false, say at which input.
  Laid BY PROGRAM, IN A SANDBOX (cutbox-rows.mjs): the forced cells as the released guide's own fill.sh prints them over the translation 240d6d8554a912d9… (all of the seat's roots in one cut). By AI agents, Wed Nov 11 2026. No macro, syntax, notation, axiom, sorry.
-/
import Derived.Test.YtandfgncjpgifaaGreatChecked
import GoSem.Claim
import GoSem.ClaimJoined
import GoSem.ClaimMapViews
import Derived.JoinedTies
import Derived.KernelRfl
namespace Go.Proofs.YtandfgncjpgifaaGreat
/- THE CELL 'sum', in the pinned program and in every row, IS THE sha256 OF THE DUMP (.gsa) THAT YtandfgncjpgifaaGreatProg.lean LOADS. Nothing in Lean hashes anything: it is a label: what it is worth is what the hold of that sum in a sandbox is worth. -/
noncomputable def Tryz.pinned : Pinned := { name := "ytandfgncjpgifaagreat", sum := "240d6d8554a912d99c0ee5fc82d0288155a670e4078c60039e592ea5a60b44df", checked := Tryz.checked }
namespace Rows
def none {H : Type} : Left H := { results := [], args := [] }

/-- 'laws.FnExactActivate': WHATEVER THE INPUT: true; the input reads as it did. -/
def fnExactActivateSpec : ChangeSpec := { name := "fnExactActivate", fn := fun _ => fun
  | [d] => { results := [.lit (.bool true)], args := [d] }
  | _ => none }
def fnExactActivateRow : OpenClaim := { program := "ytandfgncjpgifaagreat", sum := "240d6d8554a912d99c0ee5fc82d0288155a670e4078c60039e592ea5a60b44df", func := "loop.example/g01926/laws.FnExactActivate", spec := "fnExactActivate", unfollowed := true, recurses := true, apart := false }
def FnExactActivateSaid : Prop := fnExactActivateRow.holds Tryz.pinned (OpenSpec.ofChange fnExactActivateSpec)

/-- ITS FALSE NEIGHBOUR: 'it returns false'. Refute it at one input. -/
def fnExactActivateWrong : ChangeSpec := { name := "fnExactActivate", fn := fun _ => fun
  | [d] => { results := [.lit (.bool false)], args := [d] }
  | _ => none }
def FnExactActivateWrongFalsely : Prop := fnExactActivateRow.holds Tryz.pinned (OpenSpec.ofChange fnExactActivateWrong)

/-- 'laws.FnExactRepairGroup': WHATEVER THE INPUT: true; the input reads as it did. -/
def fnExactRepairGroupSpec : ChangeSpec := { name := "fnExactRepairGroup", fn := fun _ => fun
  | [d1, d2, d3] => { results := [.lit (.bool true)], args := [d1, d2, d3] }
  | _ => none }
def fnExactRepairGroupRow : OpenClaim := { program := "ytandfgncjpgifaagreat", sum := "240d6d8554a912d99c0ee5fc82d0288155a670e4078c60039e592ea5a60b44df", func := "loop.example/g01926/laws.FnExactRepairGroup", spec := "fnExactRepairGroup", unfollowed := true, recurses := true, apart := false }
def FnExactRepairGroupSaid : Prop := fnExactRepairGroupRow.holds Tryz.pinned (OpenSpec.ofChange fnExactRepairGroupSpec)

/-- ITS FALSE NEIGHBOUR: 'it returns false'. Refute it at one input. -/
def fnExactRepairGroupWrong : ChangeSpec := { name := "fnExactRepairGroup", fn := fun _ => fun
  | [d1, d2, d3] => { results := [.lit (.bool false)], args := [d1, d2, d3] }
  | _ => none }
def FnExactRepairGroupWrongFalsely : Prop := fnExactRepairGroupRow.holds Tryz.pinned (OpenSpec.ofChange fnExactRepairGroupWrong)

/-- 'laws.FnExactPushToMember': WHATEVER THE INPUT: true; the input reads as it did. -/
def fnExactPushToMemberSpec : ChangeSpec := { name := "fnExactPushToMember", fn := fun _ => fun
  | [d1, d2, d3] => { results := [.lit (.bool true)], args := [d1, d2, d3] }
  | _ => none }
def fnExactPushToMemberRow : OpenClaim := { program := "ytandfgncjpgifaagreat", sum := "240d6d8554a912d99c0ee5fc82d0288155a670e4078c60039e592ea5a60b44df", func := "loop.example/g01926/laws.FnExactPushToMember", spec := "fnExactPushToMember", unfollowed := true, recurses := true, apart := false }
def FnExactPushToMemberSaid : Prop := fnExactPushToMemberRow.holds Tryz.pinned (OpenSpec.ofChange fnExactPushToMemberSpec)

/-- ITS FALSE NEIGHBOUR: 'it returns false'. Refute it at one input. -/
def fnExactPushToMemberWrong : ChangeSpec := { name := "fnExactPushToMember", fn := fun _ => fun
  | [d1, d2, d3] => { results := [.lit (.bool false)], args := [d1, d2, d3] }
  | _ => none }
def FnExactPushToMemberWrongFalsely : Prop := fnExactPushToMemberRow.holds Tryz.pinned (OpenSpec.ofChange fnExactPushToMemberWrong)

/-- 'laws.FnExactCommitPending': WHATEVER THE INPUT: true; the input reads as it did. -/
def fnExactCommitPendingSpec : ChangeSpec := { name := "fnExactCommitPending", fn := fun _ => fun
  | [d1, d2] => { results := [.lit (.bool true)], args := [d1, d2] }
  | _ => none }
def fnExactCommitPendingRow : OpenClaim := { program := "ytandfgncjpgifaagreat", sum := "240d6d8554a912d99c0ee5fc82d0288155a670e4078c60039e592ea5a60b44df", func := "loop.example/g01926/laws.FnExactCommitPending", spec := "fnExactCommitPending", unfollowed := true, recurses := true, apart := false }
def FnExactCommitPendingSaid : Prop := fnExactCommitPendingRow.holds Tryz.pinned (OpenSpec.ofChange fnExactCommitPendingSpec)

/-- ITS FALSE NEIGHBOUR: 'it returns false'. Refute it at one input. -/
def fnExactCommitPendingWrong : ChangeSpec := { name := "fnExactCommitPending", fn := fun _ => fun
  | [d1, d2] => { results := [.lit (.bool false)], args := [d1, d2] }
  | _ => none }
def FnExactCommitPendingWrongFalsely : Prop := fnExactCommitPendingRow.holds Tryz.pinned (OpenSpec.ofChange fnExactCommitPendingWrong)

/-- 'laws.FnExactSwitchPrimary': WHATEVER THE INPUT: true; the input reads as it did. -/
def fnExactSwitchPrimarySpec : ChangeSpec := { name := "fnExactSwitchPrimary", fn := fun _ => fun
  | [d1, d2] => { results := [.lit (.bool true)], args := [d1, d2] }
  | _ => none }
def fnExactSwitchPrimaryRow : OpenClaim := { program := "ytandfgncjpgifaagreat", sum := "240d6d8554a912d99c0ee5fc82d0288155a670e4078c60039e592ea5a60b44df", func := "loop.example/g01926/laws.FnExactSwitchPrimary", spec := "fnExactSwitchPrimary", unfollowed := true, recurses := true, apart := false }
def FnExactSwitchPrimarySaid : Prop := fnExactSwitchPrimaryRow.holds Tryz.pinned (OpenSpec.ofChange fnExactSwitchPrimarySpec)

/-- ITS FALSE NEIGHBOUR: 'it returns false'. Refute it at one input. -/
def fnExactSwitchPrimaryWrong : ChangeSpec := { name := "fnExactSwitchPrimary", fn := fun _ => fun
  | [d1, d2] => { results := [.lit (.bool false)], args := [d1, d2] }
  | _ => none }
def FnExactSwitchPrimaryWrongFalsely : Prop := fnExactSwitchPrimaryRow.holds Tryz.pinned (OpenSpec.ofChange fnExactSwitchPrimaryWrong)

/-- 'laws.FnExactRepairReplica': WHATEVER THE INPUT: true; the input reads as it did. -/
def fnExactRepairReplicaSpec : ChangeSpec := { name := "fnExactRepairReplica", fn := fun _ => fun
  | [d1, d2, d3] => { results := [.lit (.bool true)], args := [d1, d2, d3] }
  | _ => none }
def fnExactRepairReplicaRow : OpenClaim := { program := "ytandfgncjpgifaagreat", sum := "240d6d8554a912d99c0ee5fc82d0288155a670e4078c60039e592ea5a60b44df", func := "loop.example/g01926/laws.FnExactRepairReplica", spec := "fnExactRepairReplica", unfollowed := true, recurses := true, apart := false }
def FnExactRepairReplicaSaid : Prop := fnExactRepairReplicaRow.holds Tryz.pinned (OpenSpec.ofChange fnExactRepairReplicaSpec)

/-- ITS FALSE NEIGHBOUR: 'it returns false'. Refute it at one input. -/
def fnExactRepairReplicaWrong : ChangeSpec := { name := "fnExactRepairReplica", fn := fun _ => fun
  | [d1, d2, d3] => { results := [.lit (.bool false)], args := [d1, d2, d3] }
  | _ => none }
def FnExactRepairReplicaWrongFalsely : Prop := fnExactRepairReplicaRow.holds Tryz.pinned (OpenSpec.ofChange fnExactRepairReplicaWrong)

/- THE SECOND FORM. 'bulk': how many values and letters a reading holds, each counted each time it is reached (what is shared counts as often as it is met; a slice's spare places count too). A statement '..UptoSaid' is the law's where the arguments, and the package variables that the reading takes, are together of bulk at most 1048576: NARROWER than '..Said'. Prove '..Said' where nothing that the law and all that it calls make is longer than what came in: it says more and counts as full. Else prove '..UptoSaid'. A law counts once. -/
mutual
def uptoBulk {H : Type} : DataW H → Nat
  | .lit (.string bytes) => bytes.length + 1
  | .lit _ => 1
  | .nil => 1
  | .ptr d => uptoBulk d + 1
  | .slice elems spare => uptoBulkAll elems + uptoBulkAll spare + 1
  | .agg parts => uptoBulkAll parts + 1
  | .iface _ d => uptoBulk d + 1
  | .map entries => uptoBulkEntries entries + 1
  | .held _ => 1
def uptoBulkAll {H : Type} : List (DataW H) → Nat
  | [] => 0
  | d :: r => uptoBulk d + uptoBulkAll r
def uptoBulkEntries {H : Type} : List (Lit × DataW H) → Nat
  | [] => 0
  | x :: r => uptoBulkEntry x + uptoBulkEntries r
def uptoBulkEntry {H : Type} : Lit × DataW H → Nat
  | (.string bytes, d) => bytes.length + uptoBulk d + 1
  | (_, d) => uptoBulk d + 1
 end
def uptoSmall : (H : Type) → List (DataW H) → Bool := fun _ ds => decide (uptoBulkAll ds ≤ 1048576)
def OpenSpec.upto (s : _root_.Go.ChangeSpec) : _root_.Go.OpenSpec := { _root_.Go.OpenSpec.ofChange s with cond := some uptoSmall }

/-- 'laws.FnExactActivate', WHERE WHAT IT READS IS OF BULK AT MOST 1048576: true; the input reads as it did. -/
def fnExactActivateUptoRow : OpenClaim := { program := "ytandfgncjpgifaagreat", sum := "240d6d8554a912d99c0ee5fc82d0288155a670e4078c60039e592ea5a60b44df", func := "loop.example/g01926/laws.FnExactActivate", spec := "fnExactActivate", unfollowed := true, recurses := true, apart := false, narrowed := true }
def FnExactActivateUptoSaid : Prop := fnExactActivateUptoRow.holds Tryz.pinned (OpenSpec.upto fnExactActivateSpec)

/-- 'laws.FnExactRepairGroup', WHERE WHAT IT READS IS OF BULK AT MOST 1048576: true; the input reads as it did. -/
def fnExactRepairGroupUptoRow : OpenClaim := { program := "ytandfgncjpgifaagreat", sum := "240d6d8554a912d99c0ee5fc82d0288155a670e4078c60039e592ea5a60b44df", func := "loop.example/g01926/laws.FnExactRepairGroup", spec := "fnExactRepairGroup", unfollowed := true, recurses := true, apart := false, narrowed := true }
def FnExactRepairGroupUptoSaid : Prop := fnExactRepairGroupUptoRow.holds Tryz.pinned (OpenSpec.upto fnExactRepairGroupSpec)

/-- 'laws.FnExactPushToMember', WHERE WHAT IT READS IS OF BULK AT MOST 1048576: true; the input reads as it did. -/
def fnExactPushToMemberUptoRow : OpenClaim := { program := "ytandfgncjpgifaagreat", sum := "240d6d8554a912d99c0ee5fc82d0288155a670e4078c60039e592ea5a60b44df", func := "loop.example/g01926/laws.FnExactPushToMember", spec := "fnExactPushToMember", unfollowed := true, recurses := true, apart := false, narrowed := true }
def FnExactPushToMemberUptoSaid : Prop := fnExactPushToMemberUptoRow.holds Tryz.pinned (OpenSpec.upto fnExactPushToMemberSpec)

/-- 'laws.FnExactCommitPending', WHERE WHAT IT READS IS OF BULK AT MOST 1048576: true; the input reads as it did. -/
def fnExactCommitPendingUptoRow : OpenClaim := { program := "ytandfgncjpgifaagreat", sum := "240d6d8554a912d99c0ee5fc82d0288155a670e4078c60039e592ea5a60b44df", func := "loop.example/g01926/laws.FnExactCommitPending", spec := "fnExactCommitPending", unfollowed := true, recurses := true, apart := false, narrowed := true }
def FnExactCommitPendingUptoSaid : Prop := fnExactCommitPendingUptoRow.holds Tryz.pinned (OpenSpec.upto fnExactCommitPendingSpec)

/-- 'laws.FnExactSwitchPrimary', WHERE WHAT IT READS IS OF BULK AT MOST 1048576: true; the input reads as it did. -/
def fnExactSwitchPrimaryUptoRow : OpenClaim := { program := "ytandfgncjpgifaagreat", sum := "240d6d8554a912d99c0ee5fc82d0288155a670e4078c60039e592ea5a60b44df", func := "loop.example/g01926/laws.FnExactSwitchPrimary", spec := "fnExactSwitchPrimary", unfollowed := true, recurses := true, apart := false, narrowed := true }
def FnExactSwitchPrimaryUptoSaid : Prop := fnExactSwitchPrimaryUptoRow.holds Tryz.pinned (OpenSpec.upto fnExactSwitchPrimarySpec)

/-- 'laws.FnExactRepairReplica', WHERE WHAT IT READS IS OF BULK AT MOST 1048576: true; the input reads as it did. -/
def fnExactRepairReplicaUptoRow : OpenClaim := { program := "ytandfgncjpgifaagreat", sum := "240d6d8554a912d99c0ee5fc82d0288155a670e4078c60039e592ea5a60b44df", func := "loop.example/g01926/laws.FnExactRepairReplica", spec := "fnExactRepairReplica", unfollowed := true, recurses := true, apart := false, narrowed := true }
def FnExactRepairReplicaUptoSaid : Prop := fnExactRepairReplicaUptoRow.holds Tryz.pinned (OpenSpec.upto fnExactRepairReplicaSpec)

end Rows
end Go.Proofs.YtandfgncjpgifaaGreat

/-
  No cell of these rows narrows 'for every input' (looked for: loops, veiled, ifaces, maps, wideKeys, modest, calm, conditions, laid).
  DERIVED. THE GIVEN ROWS OF THIS SEAT. 2 by the template 'for every input the law returns true; each argument reads behind the call as it read before'; 0 by the template 'total and deterministic' (their statements: YtijifinpifomcaaGreatTotals.lean).
  GIVEN WITH THE SEED: the statements are not yours to turn. If you find one false, say at which input.
  Laid BY PROGRAM, IN A SANDBOX (cutbox-rows.mjs): the forced cells as the released guide's own fill.sh prints them over the translation a4cb7c8b96d93638… (all of the seat's roots in one cut). By AI agents, Wed Nov 11 2026. No macro, syntax, notation, axiom, sorry.
-/
import Derived.Test.YtijifinpifomcaaGreatChecked
import GoSem.Claim
import GoSem.ClaimJoined
import GoSem.ClaimMapViews
import Derived.JoinedTies
import Derived.KernelRfl
namespace Go.Proofs.YtijifinpifomcaaGreat
/- THE CELL 'sum', in the pinned program and in every row, IS THE sha256 OF THE DUMP (.gsa) THAT YtijifinpifomcaaGreatProg.lean LOADS. Nothing in Lean hashes anything: it is a label: what it is worth is what the hold of that sum in a sandbox is worth. -/
noncomputable def Tryz.pinned : Pinned := { name := "ytijifinpifomcaagreat", sum := "a4cb7c8b96d93638d9f0f2d74048a691e39b6cfd6a023947420afc34aec1a07d", checked := Tryz.checked }
namespace Rows
def none {H : Type} : Left H := { results := [], args := [] }

/-- 'laws.FnExactRepairReplica': WHATEVER THE INPUT: true; the input reads as it did. -/
def fnExactRepairReplicaSpec : ChangeSpec := { name := "fnExactRepairReplica", fn := fun _ => fun
  | [d1, d2, d3] => { results := [.lit (.bool true)], args := [d1, d2, d3] }
  | _ => none }
def fnExactRepairReplicaRow : OpenClaim := { program := "ytijifinpifomcaagreat", sum := "a4cb7c8b96d93638d9f0f2d74048a691e39b6cfd6a023947420afc34aec1a07d", func := "loop.example/g01926/laws.FnExactRepairReplica", spec := "fnExactRepairReplica", unfollowed := true, recurses := true, apart := false }
def FnExactRepairReplicaSaid : Prop := fnExactRepairReplicaRow.holds Tryz.pinned (OpenSpec.ofChange fnExactRepairReplicaSpec)

/-- ITS FALSE NEIGHBOUR: 'it returns false'. Refute it at one input. -/
def fnExactRepairReplicaWrong : ChangeSpec := { name := "fnExactRepairReplica", fn := fun _ => fun
  | [d1, d2, d3] => { results := [.lit (.bool false)], args := [d1, d2, d3] }
  | _ => none }
def FnExactRepairReplicaWrongFalsely : Prop := fnExactRepairReplicaRow.holds Tryz.pinned (OpenSpec.ofChange fnExactRepairReplicaWrong)

/-- 'laws.FnServerStates': WHATEVER THE INPUT: true; the input reads as it did. -/
def fnServerStatesSpec : ChangeSpec := { name := "fnServerStates", fn := fun _ => fun
  | [d] => { results := [.lit (.bool true)], args := [d] }
  | _ => none }
def fnServerStatesRow : OpenClaim := { program := "ytijifinpifomcaagreat", sum := "a4cb7c8b96d93638d9f0f2d74048a691e39b6cfd6a023947420afc34aec1a07d", func := "loop.example/g01926/laws.FnServerStates", spec := "fnServerStates", unfollowed := true, recurses := true, apart := false }
def FnServerStatesSaid : Prop := fnServerStatesRow.holds Tryz.pinned (OpenSpec.ofChange fnServerStatesSpec)

/-- ITS FALSE NEIGHBOUR: 'it returns false'. Refute it at one input. -/
def fnServerStatesWrong : ChangeSpec := { name := "fnServerStates", fn := fun _ => fun
  | [d] => { results := [.lit (.bool false)], args := [d] }
  | _ => none }
def FnServerStatesWrongFalsely : Prop := fnServerStatesRow.holds Tryz.pinned (OpenSpec.ofChange fnServerStatesWrong)

/- THE SECOND FORM. 'bulk': how many values and letters a reading holds, each counted each time it is reached (what is shared counts as often as it is met; a slice's spare places count too). A statement '..UptoSaid' is the law's where the arguments, and the package variables that the reading takes, are together of bulk at most 1048576: NARROWER than '..Said'. Prove '..Said' where nothing that the law and all that it calls make is longer than what came in: it says more and counts as full. Else prove '..UptoSaid'. A law counts once. -/
mutual
def uptoBulk {H : Type} : DataW H → Nat
  | .lit (.string bytes) => bytes.length + 1
  | .lit _ => 1
  | .nil => 1
  | .ptr d => uptoBulk d + 1
  | .slice elems spare => uptoBulkAll elems + uptoBulkAll spare + 1
  | .agg parts => uptoBulkAll parts + 1
  | .iface _ d => uptoBulk d + 1
  | .map entries => uptoBulkEntries entries + 1
  | .held _ => 1
def uptoBulkAll {H : Type} : List (DataW H) → Nat
  | [] => 0
  | d :: r => uptoBulk d + uptoBulkAll r
def uptoBulkEntries {H : Type} : List (Lit × DataW H) → Nat
  | [] => 0
  | x :: r => uptoBulkEntry x + uptoBulkEntries r
def uptoBulkEntry {H : Type} : Lit × DataW H → Nat
  | (.string bytes, d) => bytes.length + uptoBulk d + 1
  | (_, d) => uptoBulk d + 1
 end
def uptoSmall : (H : Type) → List (DataW H) → Bool := fun _ ds => decide (uptoBulkAll ds ≤ 1048576)
def OpenSpec.upto (s : _root_.Go.ChangeSpec) : _root_.Go.OpenSpec := { _root_.Go.OpenSpec.ofChange s with cond := some uptoSmall }

/-- 'laws.FnExactRepairReplica', WHERE WHAT IT READS IS OF BULK AT MOST 1048576: true; the input reads as it did. -/
def fnExactRepairReplicaUptoRow : OpenClaim := { program := "ytijifinpifomcaagreat", sum := "a4cb7c8b96d93638d9f0f2d74048a691e39b6cfd6a023947420afc34aec1a07d", func := "loop.example/g01926/laws.FnExactRepairReplica", spec := "fnExactRepairReplica", unfollowed := true, recurses := true, apart := false, narrowed := true }
def FnExactRepairReplicaUptoSaid : Prop := fnExactRepairReplicaUptoRow.holds Tryz.pinned (OpenSpec.upto fnExactRepairReplicaSpec)

/-- 'laws.FnServerStates', WHERE WHAT IT READS IS OF BULK AT MOST 1048576: true; the input reads as it did. -/
def fnServerStatesUptoRow : OpenClaim := { program := "ytijifinpifomcaagreat", sum := "a4cb7c8b96d93638d9f0f2d74048a691e39b6cfd6a023947420afc34aec1a07d", func := "loop.example/g01926/laws.FnServerStates", spec := "fnServerStates", unfollowed := true, recurses := true, apart := false, narrowed := true }
def FnServerStatesUptoSaid : Prop := fnServerStatesUptoRow.holds Tryz.pinned (OpenSpec.upto fnServerStatesSpec)

end Rows
end Go.Proofs.YtijifinpifomcaaGreat

/-
  No cell of these rows narrows 'for every input' (looked for: loops, veiled, ifaces, maps, wideKeys, modest, calm, conditions, laid).
  DERIVED. THE GIVEN ROWS OF THIS SEAT. 11 by the template 'for every input the law returns true; each argument reads behind the call as it read before'; 0 by the template 'total and deterministic' (their statements: YtaghlbbopdeljaaGreatTotals.lean).
  GIVEN WITH THE SEED: the statements are not yours to turn. If you find one false, say at which input.
  Laid BY PROGRAM, IN A SANDBOX (cutbox-rows.mjs): the forced cells as the released guide's own fill.sh prints them over the translation 78a4f2eb6023d078… (all of the seat's roots in one cut). By AI agents, Wed Nov 11 2026. No macro, syntax, notation, axiom, sorry.
-/
import Derived.Test.YtaghlbbopdeljaaGreatChecked
import GoSem.Claim
import GoSem.ClaimJoined
import GoSem.ClaimMapViews
import Derived.JoinedTies
import Derived.KernelRfl
namespace Go.Proofs.YtaghlbbopdeljaaGreat
/- THE CELL 'sum', in the pinned program and in every row, IS THE sha256 OF THE DUMP (.gsa) THAT YtaghlbbopdeljaaGreatProg.lean LOADS. Nothing in Lean hashes anything: it is a label: what it is worth is what the hold of that sum in a sandbox is worth. -/
noncomputable def Tryz.pinned : Pinned := { name := "ytaghlbbopdeljaagreat", sum := "78a4f2eb6023d07874e10c22d7f4abd0c01015e4f8198ea5e925dd9f1b7351fd", checked := Tryz.checked }
namespace Rows
def none {H : Type} : Left H := { results := [], args := [] }

/-- 'laws.FnExactSwitchSteps': WHATEVER THE INPUT: true; the input reads as it did. -/
def fnExactSwitchStepsSpec : ChangeSpec := { name := "fnExactSwitchSteps", fn := fun _ => fun
  | [d1, d2] => { results := [.lit (.bool true)], args := [d1, d2] }
  | _ => none }
def fnExactSwitchStepsRow : OpenClaim := { program := "ytaghlbbopdeljaagreat", sum := "78a4f2eb6023d07874e10c22d7f4abd0c01015e4f8198ea5e925dd9f1b7351fd", func := "loop.example/g01926/laws.FnExactSwitchSteps", spec := "fnExactSwitchSteps", unfollowed := true, recurses := true, apart := false }
def FnExactSwitchStepsSaid : Prop := fnExactSwitchStepsRow.holds Tryz.pinned (OpenSpec.ofChange fnExactSwitchStepsSpec)

/-- ITS FALSE NEIGHBOUR: 'it returns false'. Refute it at one input. -/
def fnExactSwitchStepsWrong : ChangeSpec := { name := "fnExactSwitchSteps", fn := fun _ => fun
  | [d1, d2] => { results := [.lit (.bool false)], args := [d1, d2] }
  | _ => none }
def FnExactSwitchStepsWrongFalsely : Prop := fnExactSwitchStepsRow.holds Tryz.pinned (OpenSpec.ofChange fnExactSwitchStepsWrong)

/-- 'laws.FnExactPassTime': WHATEVER THE INPUT: true; the input reads as it did. -/
def fnExactPassTimeSpec : ChangeSpec := { name := "fnExactPassTime", fn := fun _ => fun
  | [d1, d2] => { results := [.lit (.bool true)], args := [d1, d2] }
  | _ => none }
def fnExactPassTimeRow : OpenClaim := { program := "ytaghlbbopdeljaagreat", sum := "78a4f2eb6023d07874e10c22d7f4abd0c01015e4f8198ea5e925dd9f1b7351fd", func := "loop.example/g01926/laws.FnExactPassTime", spec := "fnExactPassTime", unfollowed := true, recurses := true, apart := false }
def FnExactPassTimeSaid : Prop := fnExactPassTimeRow.holds Tryz.pinned (OpenSpec.ofChange fnExactPassTimeSpec)

/-- ITS FALSE NEIGHBOUR: 'it returns false'. Refute it at one input. -/
def fnExactPassTimeWrong : ChangeSpec := { name := "fnExactPassTime", fn := fun _ => fun
  | [d1, d2] => { results := [.lit (.bool false)], args := [d1, d2] }
  | _ => none }
def FnExactPassTimeWrongFalsely : Prop := fnExactPassTimeRow.holds Tryz.pinned (OpenSpec.ofChange fnExactPassTimeWrong)

/-- 'laws.FnExactSetMasters': WHATEVER THE INPUT: true; the input reads as it did. -/
def fnExactSetMastersSpec : ChangeSpec := { name := "fnExactSetMasters", fn := fun _ => fun
  | [d1, d2] => { results := [.lit (.bool true)], args := [d1, d2] }
  | _ => none }
def fnExactSetMastersRow : OpenClaim := { program := "ytaghlbbopdeljaagreat", sum := "78a4f2eb6023d07874e10c22d7f4abd0c01015e4f8198ea5e925dd9f1b7351fd", func := "loop.example/g01926/laws.FnExactSetMasters", spec := "fnExactSetMasters", unfollowed := true, recurses := true, apart := false }
def FnExactSetMastersSaid : Prop := fnExactSetMastersRow.holds Tryz.pinned (OpenSpec.ofChange fnExactSetMastersSpec)

/-- ITS FALSE NEIGHBOUR: 'it returns false'. Refute it at one input. -/
def fnExactSetMastersWrong : ChangeSpec := { name := "fnExactSetMasters", fn := fun _ => fun
  | [d1, d2] => { results := [.lit (.bool false)], args := [d1, d2] }
  | _ => none }
def FnExactSetMastersWrongFalsely : Prop := fnExactSetMastersRow.holds Tryz.pinned (OpenSpec.ofChange fnExactSetMastersWrong)

/-- 'laws.FnExactLoseDisk': WHATEVER THE INPUT: true; the input reads as it did. -/
def fnExactLoseDiskSpec : ChangeSpec := { name := "fnExactLoseDisk", fn := fun _ => fun
  | [d1, d2] => { results := [.lit (.bool true)], args := [d1, d2] }
  | _ => none }
def fnExactLoseDiskRow : OpenClaim := { program := "ytaghlbbopdeljaagreat", sum := "78a4f2eb6023d07874e10c22d7f4abd0c01015e4f8198ea5e925dd9f1b7351fd", func := "loop.example/g01926/laws.FnExactLoseDisk", spec := "fnExactLoseDisk", unfollowed := true, recurses := true, apart := false }
def FnExactLoseDiskSaid : Prop := fnExactLoseDiskRow.holds Tryz.pinned (OpenSpec.ofChange fnExactLoseDiskSpec)

/-- ITS FALSE NEIGHBOUR: 'it returns false'. Refute it at one input. -/
def fnExactLoseDiskWrong : ChangeSpec := { name := "fnExactLoseDisk", fn := fun _ => fun
  | [d1, d2] => { results := [.lit (.bool false)], args := [d1, d2] }
  | _ => none }
def FnExactLoseDiskWrongFalsely : Prop := fnExactLoseDiskRow.holds Tryz.pinned (OpenSpec.ofChange fnExactLoseDiskWrong)

/-- 'laws.FnExactCorruptEntry': WHATEVER THE INPUT: true; the input reads as it did. -/
def fnExactCorruptEntrySpec : ChangeSpec := { name := "fnExactCorruptEntry", fn := fun _ => fun
  | [d1, d2, d3] => { results := [.lit (.bool true)], args := [d1, d2, d3] }
  | _ => none }
def fnExactCorruptEntryRow : OpenClaim := { program := "ytaghlbbopdeljaagreat", sum := "78a4f2eb6023d07874e10c22d7f4abd0c01015e4f8198ea5e925dd9f1b7351fd", func := "loop.example/g01926/laws.FnExactCorruptEntry", spec := "fnExactCorruptEntry", unfollowed := true, recurses := true, apart := false }
def FnExactCorruptEntrySaid : Prop := fnExactCorruptEntryRow.holds Tryz.pinned (OpenSpec.ofChange fnExactCorruptEntrySpec)

/-- ITS FALSE NEIGHBOUR: 'it returns false'. Refute it at one input. -/
def fnExactCorruptEntryWrong : ChangeSpec := { name := "fnExactCorruptEntry", fn := fun _ => fun
  | [d1, d2, d3] => { results := [.lit (.bool false)], args := [d1, d2, d3] }
  | _ => none }
def FnExactCorruptEntryWrongFalsely : Prop := fnExactCorruptEntryRow.holds Tryz.pinned (OpenSpec.ofChange fnExactCorruptEntryWrong)

/-- 'laws.FnExactRestartServer': WHATEVER THE INPUT: true; the input reads as it did. -/
def fnExactRestartServerSpec : ChangeSpec := { name := "fnExactRestartServer", fn := fun _ => fun
  | [d1, d2] => { results := [.lit (.bool true)], args := [d1, d2] }
  | _ => none }
def fnExactRestartServerRow : OpenClaim := { program := "ytaghlbbopdeljaagreat", sum := "78a4f2eb6023d07874e10c22d7f4abd0c01015e4f8198ea5e925dd9f1b7351fd", func := "loop.example/g01926/laws.FnExactRestartServer", spec := "fnExactRestartServer", unfollowed := true, recurses := true, apart := false }
def FnExactRestartServerSaid : Prop := fnExactRestartServerRow.holds Tryz.pinned (OpenSpec.ofChange fnExactRestartServerSpec)

/-- ITS FALSE NEIGHBOUR: 'it returns false'. Refute it at one input. -/
def fnExactRestartServerWrong : ChangeSpec := { name := "fnExactRestartServer", fn := fun _ => fun
  | [d1, d2] => { results := [.lit (.bool false)], args := [d1, d2] }
  | _ => none }
def FnExactRestartServerWrongFalsely : Prop := fnExactRestartServerRow.holds Tryz.pinned (OpenSpec.ofChange fnExactRestartServerWrong)

/-- 'laws.FnExactCrashServer': WHATEVER THE INPUT: true; the input reads as it did. -/
def fnExactCrashServerSpec : ChangeSpec := { name := "fnExactCrashServer", fn := fun _ => fun
  | [d1, d2] => { results := [.lit (.bool true)], args := [d1, d2] }
  | _ => none }
def fnExactCrashServerRow : OpenClaim := { program := "ytaghlbbopdeljaagreat", sum := "78a4f2eb6023d07874e10c22d7f4abd0c01015e4f8198ea5e925dd9f1b7351fd", func := "loop.example/g01926/laws.FnExactCrashServer", spec := "fnExactCrashServer", unfollowed := true, recurses := true, apart := false }
def FnExactCrashServerSaid : Prop := fnExactCrashServerRow.holds Tryz.pinned (OpenSpec.ofChange fnExactCrashServerSpec)

/-- ITS FALSE NEIGHBOUR: 'it returns false'. Refute it at one input. -/
def fnExactCrashServerWrong : ChangeSpec := { name := "fnExactCrashServer", fn := fun _ => fun
  | [d1, d2] => { results := [.lit (.bool false)], args := [d1, d2] }
  | _ => none }
def FnExactCrashServerWrongFalsely : Prop := fnExactCrashServerRow.holds Tryz.pinned (OpenSpec.ofChange fnExactCrashServerWrong)

/-- 'laws.FnExactMoveServer': WHATEVER THE INPUT: true; the input reads as it did. -/
def fnExactMoveServerSpec : ChangeSpec := { name := "fnExactMoveServer", fn := fun _ => fun
  | [d1, d2, d3] => { results := [.lit (.bool true)], args := [d1, d2, d3] }
  | _ => none }
def fnExactMoveServerRow : OpenClaim := { program := "ytaghlbbopdeljaagreat", sum := "78a4f2eb6023d07874e10c22d7f4abd0c01015e4f8198ea5e925dd9f1b7351fd", func := "loop.example/g01926/laws.FnExactMoveServer", spec := "fnExactMoveServer", unfollowed := true, recurses := true, apart := false }
def FnExactMoveServerSaid : Prop := fnExactMoveServerRow.holds Tryz.pinned (OpenSpec.ofChange fnExactMoveServerSpec)

/-- ITS FALSE NEIGHBOUR: 'it returns false'. Refute it at one input. -/
def fnExactMoveServerWrong : ChangeSpec := { name := "fnExactMoveServer", fn := fun _ => fun
  | [d1, d2, d3] => { results := [.lit (.bool false)], args := [d1, d2, d3] }
  | _ => none }
def FnExactMoveServerWrongFalsely : Prop := fnExactMoveServerRow.holds Tryz.pinned (OpenSpec.ofChange fnExactMoveServerWrong)

/-- 'laws.FnExactReleaseLease': WHATEVER THE INPUT: true; the input reads as it did. -/
def fnExactReleaseLeaseSpec : ChangeSpec := { name := "fnExactReleaseLease", fn := fun _ => fun
  | [d1, d2] => { results := [.lit (.bool true)], args := [d1, d2] }
  | _ => none }
def fnExactReleaseLeaseRow : OpenClaim := { program := "ytaghlbbopdeljaagreat", sum := "78a4f2eb6023d07874e10c22d7f4abd0c01015e4f8198ea5e925dd9f1b7351fd", func := "loop.example/g01926/laws.FnExactReleaseLease", spec := "fnExactReleaseLease", unfollowed := true, recurses := true, apart := false }
def FnExactReleaseLeaseSaid : Prop := fnExactReleaseLeaseRow.holds Tryz.pinned (OpenSpec.ofChange fnExactReleaseLeaseSpec)

/-- ITS FALSE NEIGHBOUR: 'it returns false'. Refute it at one input. -/
def fnExactReleaseLeaseWrong : ChangeSpec := { name := "fnExactReleaseLease", fn := fun _ => fun
  | [d1, d2] => { results := [.lit (.bool false)], args := [d1, d2] }
  | _ => none }
def FnExactReleaseLeaseWrongFalsely : Prop := fnExactReleaseLeaseRow.holds Tryz.pinned (OpenSpec.ofChange fnExactReleaseLeaseWrong)

/-- 'laws.FnExactProposeNext': WHATEVER THE INPUT: true; the input reads as it did. -/
def fnExactProposeNextSpec : ChangeSpec := { name := "fnExactProposeNext", fn := fun _ => fun
  | [d1, d2] => { results := [.lit (.bool true)], args := [d1, d2] }
  | _ => none }
def fnExactProposeNextRow : OpenClaim := { program := "ytaghlbbopdeljaagreat", sum := "78a4f2eb6023d07874e10c22d7f4abd0c01015e4f8198ea5e925dd9f1b7351fd", func := "loop.example/g01926/laws.FnExactProposeNext", spec := "fnExactProposeNext", unfollowed := true, recurses := true, apart := false }
def FnExactProposeNextSaid : Prop := fnExactProposeNextRow.holds Tryz.pinned (OpenSpec.ofChange fnExactProposeNextSpec)

/-- ITS FALSE NEIGHBOUR: 'it returns false'. Refute it at one input. -/
def fnExactProposeNextWrong : ChangeSpec := { name := "fnExactProposeNext", fn := fun _ => fun
  | [d1, d2] => { results := [.lit (.bool false)], args := [d1, d2] }
  | _ => none }
def FnExactProposeNextWrongFalsely : Prop := fnExactProposeNextRow.holds Tryz.pinned (OpenSpec.ofChange fnExactProposeNextWrong)

/-- 'laws.FnExactRenewLease': WHATEVER THE INPUT: true; the input reads as it did. -/
def fnExactRenewLeaseSpec : ChangeSpec := { name := "fnExactRenewLease", fn := fun _ => fun
  | [d1, d2, d3] => { results := [.lit (.bool true)], args := [d1, d2, d3] }
  | _ => none }
def fnExactRenewLeaseRow : OpenClaim := { program := "ytaghlbbopdeljaagreat", sum := "78a4f2eb6023d07874e10c22d7f4abd0c01015e4f8198ea5e925dd9f1b7351fd", func := "loop.example/g01926/laws.FnExactRenewLease", spec := "fnExactRenewLease", unfollowed := true, recurses := true, apart := false }
def FnExactRenewLeaseSaid : Prop := fnExactRenewLeaseRow.holds Tryz.pinned (OpenSpec.ofChange fnExactRenewLeaseSpec)

/-- ITS FALSE NEIGHBOUR: 'it returns false'. Refute it at one input. -/
def fnExactRenewLeaseWrong : ChangeSpec := { name := "fnExactRenewLease", fn := fun _ => fun
  | [d1, d2, d3] => { results := [.lit (.bool false)], args := [d1, d2, d3] }
  | _ => none }
def FnExactRenewLeaseWrongFalsely : Prop := fnExactRenewLeaseRow.holds Tryz.pinned (OpenSpec.ofChange fnExactRenewLeaseWrong)

/- THE SECOND FORM. 'bulk': how many values and letters a reading holds, each counted each time it is reached (what is shared counts as often as it is met; a slice's spare places count too). A statement '..UptoSaid' is the law's where the arguments, and the package variables that the reading takes, are together of bulk at most 1048576: NARROWER than '..Said'. Prove '..Said' where nothing that the law and all that it calls make is longer than what came in: it says more and counts as full. Else prove '..UptoSaid'. A law counts once. -/
mutual
def uptoBulk {H : Type} : DataW H → Nat
  | .lit (.string bytes) => bytes.length + 1
  | .lit _ => 1
  | .nil => 1
  | .ptr d => uptoBulk d + 1
  | .slice elems spare => uptoBulkAll elems + uptoBulkAll spare + 1
  | .agg parts => uptoBulkAll parts + 1
  | .iface _ d => uptoBulk d + 1
  | .map entries => uptoBulkEntries entries + 1
  | .held _ => 1
def uptoBulkAll {H : Type} : List (DataW H) → Nat
  | [] => 0
  | d :: r => uptoBulk d + uptoBulkAll r
def uptoBulkEntries {H : Type} : List (Lit × DataW H) → Nat
  | [] => 0
  | x :: r => uptoBulkEntry x + uptoBulkEntries r
def uptoBulkEntry {H : Type} : Lit × DataW H → Nat
  | (.string bytes, d) => bytes.length + uptoBulk d + 1
  | (_, d) => uptoBulk d + 1
 end
def uptoSmall : (H : Type) → List (DataW H) → Bool := fun _ ds => decide (uptoBulkAll ds ≤ 1048576)
def OpenSpec.upto (s : _root_.Go.ChangeSpec) : _root_.Go.OpenSpec := { _root_.Go.OpenSpec.ofChange s with cond := some uptoSmall }

/-- 'laws.FnExactSwitchSteps', WHERE WHAT IT READS IS OF BULK AT MOST 1048576: true; the input reads as it did. -/
def fnExactSwitchStepsUptoRow : OpenClaim := { program := "ytaghlbbopdeljaagreat", sum := "78a4f2eb6023d07874e10c22d7f4abd0c01015e4f8198ea5e925dd9f1b7351fd", func := "loop.example/g01926/laws.FnExactSwitchSteps", spec := "fnExactSwitchSteps", unfollowed := true, recurses := true, apart := false, narrowed := true }
def FnExactSwitchStepsUptoSaid : Prop := fnExactSwitchStepsUptoRow.holds Tryz.pinned (OpenSpec.upto fnExactSwitchStepsSpec)

/-- 'laws.FnExactPassTime', WHERE WHAT IT READS IS OF BULK AT MOST 1048576: true; the input reads as it did. -/
def fnExactPassTimeUptoRow : OpenClaim := { program := "ytaghlbbopdeljaagreat", sum := "78a4f2eb6023d07874e10c22d7f4abd0c01015e4f8198ea5e925dd9f1b7351fd", func := "loop.example/g01926/laws.FnExactPassTime", spec := "fnExactPassTime", unfollowed := true, recurses := true, apart := false, narrowed := true }
def FnExactPassTimeUptoSaid : Prop := fnExactPassTimeUptoRow.holds Tryz.pinned (OpenSpec.upto fnExactPassTimeSpec)

/-- 'laws.FnExactSetMasters', WHERE WHAT IT READS IS OF BULK AT MOST 1048576: true; the input reads as it did. -/
def fnExactSetMastersUptoRow : OpenClaim := { program := "ytaghlbbopdeljaagreat", sum := "78a4f2eb6023d07874e10c22d7f4abd0c01015e4f8198ea5e925dd9f1b7351fd", func := "loop.example/g01926/laws.FnExactSetMasters", spec := "fnExactSetMasters", unfollowed := true, recurses := true, apart := false, narrowed := true }
def FnExactSetMastersUptoSaid : Prop := fnExactSetMastersUptoRow.holds Tryz.pinned (OpenSpec.upto fnExactSetMastersSpec)

/-- 'laws.FnExactLoseDisk', WHERE WHAT IT READS IS OF BULK AT MOST 1048576: true; the input reads as it did. -/
def fnExactLoseDiskUptoRow : OpenClaim := { program := "ytaghlbbopdeljaagreat", sum := "78a4f2eb6023d07874e10c22d7f4abd0c01015e4f8198ea5e925dd9f1b7351fd", func := "loop.example/g01926/laws.FnExactLoseDisk", spec := "fnExactLoseDisk", unfollowed := true, recurses := true, apart := false, narrowed := true }
def FnExactLoseDiskUptoSaid : Prop := fnExactLoseDiskUptoRow.holds Tryz.pinned (OpenSpec.upto fnExactLoseDiskSpec)

/-- 'laws.FnExactCorruptEntry', WHERE WHAT IT READS IS OF BULK AT MOST 1048576: true; the input reads as it did. -/
def fnExactCorruptEntryUptoRow : OpenClaim := { program := "ytaghlbbopdeljaagreat", sum := "78a4f2eb6023d07874e10c22d7f4abd0c01015e4f8198ea5e925dd9f1b7351fd", func := "loop.example/g01926/laws.FnExactCorruptEntry", spec := "fnExactCorruptEntry", unfollowed := true, recurses := true, apart := false, narrowed := true }
def FnExactCorruptEntryUptoSaid : Prop := fnExactCorruptEntryUptoRow.holds Tryz.pinned (OpenSpec.upto fnExactCorruptEntrySpec)

/-- 'laws.FnExactRestartServer', WHERE WHAT IT READS IS OF BULK AT MOST 1048576: true; the input reads as it did. -/
def fnExactRestartServerUptoRow : OpenClaim := { program := "ytaghlbbopdeljaagreat", sum := "78a4f2eb6023d07874e10c22d7f4abd0c01015e4f8198ea5e925dd9f1b7351fd", func := "loop.example/g01926/laws.FnExactRestartServer", spec := "fnExactRestartServer", unfollowed := true, recurses := true, apart := false, narrowed := true }
def FnExactRestartServerUptoSaid : Prop := fnExactRestartServerUptoRow.holds Tryz.pinned (OpenSpec.upto fnExactRestartServerSpec)

/-- 'laws.FnExactCrashServer', WHERE WHAT IT READS IS OF BULK AT MOST 1048576: true; the input reads as it did. -/
def fnExactCrashServerUptoRow : OpenClaim := { program := "ytaghlbbopdeljaagreat", sum := "78a4f2eb6023d07874e10c22d7f4abd0c01015e4f8198ea5e925dd9f1b7351fd", func := "loop.example/g01926/laws.FnExactCrashServer", spec := "fnExactCrashServer", unfollowed := true, recurses := true, apart := false, narrowed := true }
def FnExactCrashServerUptoSaid : Prop := fnExactCrashServerUptoRow.holds Tryz.pinned (OpenSpec.upto fnExactCrashServerSpec)

/-- 'laws.FnExactMoveServer', WHERE WHAT IT READS IS OF BULK AT MOST 1048576: true; the input reads as it did. -/
def fnExactMoveServerUptoRow : OpenClaim := { program := "ytaghlbbopdeljaagreat", sum := "78a4f2eb6023d07874e10c22d7f4abd0c01015e4f8198ea5e925dd9f1b7351fd", func := "loop.example/g01926/laws.FnExactMoveServer", spec := "fnExactMoveServer", unfollowed := true, recurses := true, apart := false, narrowed := true }
def FnExactMoveServerUptoSaid : Prop := fnExactMoveServerUptoRow.holds Tryz.pinned (OpenSpec.upto fnExactMoveServerSpec)

/-- 'laws.FnExactReleaseLease', WHERE WHAT IT READS IS OF BULK AT MOST 1048576: true; the input reads as it did. -/
def fnExactReleaseLeaseUptoRow : OpenClaim := { program := "ytaghlbbopdeljaagreat", sum := "78a4f2eb6023d07874e10c22d7f4abd0c01015e4f8198ea5e925dd9f1b7351fd", func := "loop.example/g01926/laws.FnExactReleaseLease", spec := "fnExactReleaseLease", unfollowed := true, recurses := true, apart := false, narrowed := true }
def FnExactReleaseLeaseUptoSaid : Prop := fnExactReleaseLeaseUptoRow.holds Tryz.pinned (OpenSpec.upto fnExactReleaseLeaseSpec)

/-- 'laws.FnExactProposeNext', WHERE WHAT IT READS IS OF BULK AT MOST 1048576: true; the input reads as it did. -/
def fnExactProposeNextUptoRow : OpenClaim := { program := "ytaghlbbopdeljaagreat", sum := "78a4f2eb6023d07874e10c22d7f4abd0c01015e4f8198ea5e925dd9f1b7351fd", func := "loop.example/g01926/laws.FnExactProposeNext", spec := "fnExactProposeNext", unfollowed := true, recurses := true, apart := false, narrowed := true }
def FnExactProposeNextUptoSaid : Prop := fnExactProposeNextUptoRow.holds Tryz.pinned (OpenSpec.upto fnExactProposeNextSpec)

/-- 'laws.FnExactRenewLease', WHERE WHAT IT READS IS OF BULK AT MOST 1048576: true; the input reads as it did. -/
def fnExactRenewLeaseUptoRow : OpenClaim := { program := "ytaghlbbopdeljaagreat", sum := "78a4f2eb6023d07874e10c22d7f4abd0c01015e4f8198ea5e925dd9f1b7351fd", func := "loop.example/g01926/laws.FnExactRenewLease", spec := "fnExactRenewLease", unfollowed := true, recurses := true, apart := false, narrowed := true }
def FnExactRenewLeaseUptoSaid : Prop := fnExactRenewLeaseUptoRow.holds Tryz.pinned (OpenSpec.upto fnExactRenewLeaseSpec)

end Rows
end Go.Proofs.YtaghlbbopdeljaaGreat

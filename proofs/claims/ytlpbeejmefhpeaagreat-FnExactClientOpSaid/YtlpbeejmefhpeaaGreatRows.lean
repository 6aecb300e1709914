/-
  No cell of these rows narrows 'for every input' (looked for: loops, veiled, ifaces, maps, wideKeys, modest, calm, conditions, laid).
  DERIVED. THE GIVEN ROWS OF THIS SEAT. 5 by the template 'for every input the law returns true; each argument reads behind the call as it read before'; 0 by the template 'total and deterministic' (their statements: YtlpbeejmefhpeaaGreatTotals.lean).
  GIVEN WITH THE SEED: the statements are not yours to turn. If you find one false, say at which input.
  Laid BY PROGRAM, IN A SANDBOX (cutbox-rows.mjs): the forced cells as the released guide's own fill.sh prints them over the translation b5f810e153aa4d99… (all of the seat's roots in one cut). By AI agents, Wed Nov 11 2026. No macro, syntax, notation, axiom, sorry.
-/
import Derived.Test.YtlpbeejmefhpeaaGreatChecked
import GoSem.Claim
import GoSem.ClaimJoined
import GoSem.ClaimMapViews
import Derived.JoinedTies
import Derived.KernelRfl
namespace Go.Proofs.YtlpbeejmefhpeaaGreat
/- THE CELL 'sum', in the pinned program and in every row, IS THE sha256 OF THE DUMP (.gsa) THAT YtlpbeejmefhpeaaGreatProg.lean LOADS. Nothing in Lean hashes anything: it is a label: what it is worth is what the hold of that sum in a sandbox is worth. -/
noncomputable def Tryz.pinned : Pinned := { name := "ytlpbeejmefhpeaagreat", sum := "b5f810e153aa4d99c8cadebb6d3463d81431b2c31ffebca0af663627b53e723e", checked := Tryz.checked }
namespace Rows
def none {H : Type} : Left H := { results := [], args := [] }

/-- 'laws.FnExactLeaseRead': WHATEVER THE INPUT: true; the input reads as it did. -/
def fnExactLeaseReadSpec : ChangeSpec := { name := "fnExactLeaseRead", fn := fun _ => fun
  | [d1, d2, d3] => { results := [.lit (.bool true)], args := [d1, d2, d3] }
  | _ => none }
def fnExactLeaseReadRow : OpenClaim := { program := "ytlpbeejmefhpeaagreat", sum := "b5f810e153aa4d99c8cadebb6d3463d81431b2c31ffebca0af663627b53e723e", func := "loop.example/g01926/laws.FnExactLeaseRead", spec := "fnExactLeaseRead", inPlace := ["slices.overlaps[loop.example/g01926/impl.Session]"], unfollowed := true, recurses := true, apart := false }
def FnExactLeaseReadSaid : Prop := fnExactLeaseReadRow.holds Tryz.pinned (OpenSpec.ofChange fnExactLeaseReadSpec)

/-- ITS FALSE NEIGHBOUR: 'it returns false'. Refute it at one input. -/
def fnExactLeaseReadWrong : ChangeSpec := { name := "fnExactLeaseRead", fn := fun _ => fun
  | [d1, d2, d3] => { results := [.lit (.bool false)], args := [d1, d2, d3] }
  | _ => none }
def FnExactLeaseReadWrongFalsely : Prop := fnExactLeaseReadRow.holds Tryz.pinned (OpenSpec.ofChange fnExactLeaseReadWrong)

/-- 'laws.FnExactBackupRead': WHATEVER THE INPUT: true; the input reads as it did. -/
def fnExactBackupReadSpec : ChangeSpec := { name := "fnExactBackupRead", fn := fun _ => fun
  | [d1, d2, d3, d4] => { results := [.lit (.bool true)], args := [d1, d2, d3, d4] }
  | _ => none }
def fnExactBackupReadRow : OpenClaim := { program := "ytlpbeejmefhpeaagreat", sum := "b5f810e153aa4d99c8cadebb6d3463d81431b2c31ffebca0af663627b53e723e", func := "loop.example/g01926/laws.FnExactBackupRead", spec := "fnExactBackupRead", inPlace := ["slices.overlaps[loop.example/g01926/impl.Session]"], unfollowed := true, recurses := true, apart := false }
def FnExactBackupReadSaid : Prop := fnExactBackupReadRow.holds Tryz.pinned (OpenSpec.ofChange fnExactBackupReadSpec)

/-- ITS FALSE NEIGHBOUR: 'it returns false'. Refute it at one input. -/
def fnExactBackupReadWrong : ChangeSpec := { name := "fnExactBackupRead", fn := fun _ => fun
  | [d1, d2, d3, d4] => { results := [.lit (.bool false)], args := [d1, d2, d3, d4] }
  | _ => none }
def FnExactBackupReadWrongFalsely : Prop := fnExactBackupReadRow.holds Tryz.pinned (OpenSpec.ofChange fnExactBackupReadWrong)

/-- 'laws.FnExactAppendOnPrimary': WHATEVER THE INPUT: true; the input reads as it did. -/
def fnExactAppendOnPrimarySpec : ChangeSpec := { name := "fnExactAppendOnPrimary", fn := fun _ => fun
  | [d1, d2, d3] => { results := [.lit (.bool true)], args := [d1, d2, d3] }
  | _ => none }
def fnExactAppendOnPrimaryRow : OpenClaim := { program := "ytlpbeejmefhpeaagreat", sum := "b5f810e153aa4d99c8cadebb6d3463d81431b2c31ffebca0af663627b53e723e", func := "loop.example/g01926/laws.FnExactAppendOnPrimary", spec := "fnExactAppendOnPrimary", inPlace := ["slices.overlaps[loop.example/g01926/impl.Session]"], unfollowed := true, recurses := true, apart := false }
def FnExactAppendOnPrimarySaid : Prop := fnExactAppendOnPrimaryRow.holds Tryz.pinned (OpenSpec.ofChange fnExactAppendOnPrimarySpec)

/-- ITS FALSE NEIGHBOUR: 'it returns false'. Refute it at one input. -/
def fnExactAppendOnPrimaryWrong : ChangeSpec := { name := "fnExactAppendOnPrimary", fn := fun _ => fun
  | [d1, d2, d3] => { results := [.lit (.bool false)], args := [d1, d2, d3] }
  | _ => none }
def FnExactAppendOnPrimaryWrongFalsely : Prop := fnExactAppendOnPrimaryRow.holds Tryz.pinned (OpenSpec.ofChange fnExactAppendOnPrimaryWrong)

/-- 'laws.FnExactClientOp': WHATEVER THE INPUT: true; the input reads as it did. -/
def fnExactClientOpSpec : ChangeSpec := { name := "fnExactClientOp", fn := fun _ => fun
  | [d1, d2, d3] => { results := [.lit (.bool true)], args := [d1, d2, d3] }
  | _ => none }
def fnExactClientOpRow : OpenClaim := { program := "ytlpbeejmefhpeaagreat", sum := "b5f810e153aa4d99c8cadebb6d3463d81431b2c31ffebca0af663627b53e723e", func := "loop.example/g01926/laws.FnExactClientOp", spec := "fnExactClientOp", inPlace := ["slices.overlaps[loop.example/g01926/impl.Session]"], unfollowed := true, recurses := true, apart := false }
def FnExactClientOpSaid : Prop := fnExactClientOpRow.holds Tryz.pinned (OpenSpec.ofChange fnExactClientOpSpec)

/-- ITS FALSE NEIGHBOUR: 'it returns false'. Refute it at one input. -/
def fnExactClientOpWrong : ChangeSpec := { name := "fnExactClientOp", fn := fun _ => fun
  | [d1, d2, d3] => { results := [.lit (.bool false)], args := [d1, d2, d3] }
  | _ => none }
def FnExactClientOpWrongFalsely : Prop := fnExactClientOpRow.holds Tryz.pinned (OpenSpec.ofChange fnExactClientOpWrong)

/-- 'laws.FnExactRetryOp': WHATEVER THE INPUT: true; the input reads as it did. -/
def fnExactRetryOpSpec : ChangeSpec := { name := "fnExactRetryOp", fn := fun _ => fun
  | [d1, d2, d3] => { results := [.lit (.bool true)], args := [d1, d2, d3] }
  | _ => none }
def fnExactRetryOpRow : OpenClaim := { program := "ytlpbeejmefhpeaagreat", sum := "b5f810e153aa4d99c8cadebb6d3463d81431b2c31ffebca0af663627b53e723e", func := "loop.example/g01926/laws.FnExactRetryOp", spec := "fnExactRetryOp", inPlace := ["slices.overlaps[loop.example/g01926/impl.Session]"], unfollowed := true, recurses := true, apart := false }
def FnExactRetryOpSaid : Prop := fnExactRetryOpRow.holds Tryz.pinned (OpenSpec.ofChange fnExactRetryOpSpec)

/-- ITS FALSE NEIGHBOUR: 'it returns false'. Refute it at one input. -/
def fnExactRetryOpWrong : ChangeSpec := { name := "fnExactRetryOp", fn := fun _ => fun
  | [d1, d2, d3] => { results := [.lit (.bool false)], args := [d1, d2, d3] }
  | _ => none }
def FnExactRetryOpWrongFalsely : Prop := fnExactRetryOpRow.holds Tryz.pinned (OpenSpec.ofChange fnExactRetryOpWrong)

/- THE SECOND FORM. 'bulk': how many values and letters a reading holds, each counted each time it is reached (what is shared counts as often as it is met; a slice's spare places count too). A statement '..UptoSaid' is the law's where the arguments, and the package variables that the reading takes, are together of bulk at most 1048576: NARROWER than '..Said'. Prove '..Said' where nothing that the law and all that it calls make is longer than what came in: it says more and counts as full. Else prove '..UptoSaid'. A law counts once. -/
mutual
def uptoBulk {H : Type} : DataW H → Nat
  | .lit (.string bytes) => bytes.length + 1
  | .lit _ => 1
  | .nil => 1
  | .ptr d => uptoBulk d + 1
  | .slice elems spare => uptoBulkAll elems + uptoBulkAll spare + 1
  | .agg parts => uptoBulkAll parts + 1
  | .iface _ d => uptoBulk d + 1
  | .map entries => uptoBulkEntries entries + 1
  | .held _ => 1
def uptoBulkAll {H : Type} : List (DataW H) → Nat
  | [] => 0
  | d :: r => uptoBulk d + uptoBulkAll r
def uptoBulkEntries {H : Type} : List (Lit × DataW H) → Nat
  | [] => 0
  | x :: r => uptoBulkEntry x + uptoBulkEntries r
def uptoBulkEntry {H : Type} : Lit × DataW H → Nat
  | (.string bytes, d) => bytes.length + uptoBulk d + 1
  | (_, d) => uptoBulk d + 1
 end
def uptoSmall : (H : Type) → List (DataW H) → Bool := fun _ ds => decide (uptoBulkAll ds ≤ 1048576)
def OpenSpec.upto (s : _root_.Go.ChangeSpec) : _root_.Go.OpenSpec := { _root_.Go.OpenSpec.ofChange s with cond := some uptoSmall }

/-- 'laws.FnExactLeaseRead', WHERE WHAT IT READS IS OF BULK AT MOST 1048576: true; the input reads as it did. -/
def fnExactLeaseReadUptoRow : OpenClaim := { program := "ytlpbeejmefhpeaagreat", sum := "b5f810e153aa4d99c8cadebb6d3463d81431b2c31ffebca0af663627b53e723e", func := "loop.example/g01926/laws.FnExactLeaseRead", spec := "fnExactLeaseRead", inPlace := ["slices.overlaps[loop.example/g01926/impl.Session]"], unfollowed := true, recurses := true, apart := false, narrowed := true }
def FnExactLeaseReadUptoSaid : Prop := fnExactLeaseReadUptoRow.holds Tryz.pinned (OpenSpec.upto fnExactLeaseReadSpec)

/-- 'laws.FnExactBackupRead', WHERE WHAT IT READS IS OF BULK AT MOST 1048576: true; the input reads as it did. -/
def fnExactBackupReadUptoRow : OpenClaim := { program := "ytlpbeejmefhpeaagreat", sum := "b5f810e153aa4d99c8cadebb6d3463d81431b2c31ffebca0af663627b53e723e", func := "loop.example/g01926/laws.FnExactBackupRead", spec := "fnExactBackupRead", inPlace := ["slices.overlaps[loop.example/g01926/impl.Session]"], unfollowed := true, recurses := true, apart := false, narrowed := true }
def FnExactBackupReadUptoSaid : Prop := fnExactBackupReadUptoRow.holds Tryz.pinned (OpenSpec.upto fnExactBackupReadSpec)

/-- 'laws.FnExactAppendOnPrimary', WHERE WHAT IT READS IS OF BULK AT MOST 1048576: true; the input reads as it did. -/
def fnExactAppendOnPrimaryUptoRow : OpenClaim := { program := "ytlpbeejmefhpeaagreat", sum := "b5f810e153aa4d99c8cadebb6d3463d81431b2c31ffebca0af663627b53e723e", func := "loop.example/g01926/laws.FnExactAppendOnPrimary", spec := "fnExactAppendOnPrimary", inPlace := ["slices.overlaps[loop.example/g01926/impl.Session]"], unfollowed := true, recurses := true, apart := false, narrowed := true }
def FnExactAppendOnPrimaryUptoSaid : Prop := fnExactAppendOnPrimaryUptoRow.holds Tryz.pinned (OpenSpec.upto fnExactAppendOnPrimarySpec)

/-- 'laws.FnExactClientOp', WHERE WHAT IT READS IS OF BULK AT MOST 1048576: true; the input reads as it did. -/
def fnExactClientOpUptoRow : OpenClaim := { program := "ytlpbeejmefhpeaagreat", sum := "b5f810e153aa4d99c8cadebb6d3463d81431b2c31ffebca0af663627b53e723e", func := "loop.example/g01926/laws.FnExactClientOp", spec := "fnExactClientOp", inPlace := ["slices.overlaps[loop.example/g01926/impl.Session]"], unfollowed := true, recurses := true, apart := false, narrowed := true }
def FnExactClientOpUptoSaid : Prop := fnExactClientOpUptoRow.holds Tryz.pinned (OpenSpec.upto fnExactClientOpSpec)

/-- 'laws.FnExactRetryOp', WHERE WHAT IT READS IS OF BULK AT MOST 1048576: true; the input reads as it did. -/
def fnExactRetryOpUptoRow : OpenClaim := { program := "ytlpbeejmefhpeaagreat", sum := "b5f810e153aa4d99c8cadebb6d3463d81431b2c31ffebca0af663627b53e723e", func := "loop.example/g01926/laws.FnExactRetryOp", spec := "fnExactRetryOp", inPlace := ["slices.overlaps[loop.example/g01926/impl.Session]"], unfollowed := true, recurses := true, apart := false, narrowed := true }
def FnExactRetryOpUptoSaid : Prop := fnExactRetryOpUptoRow.holds Tryz.pinned (OpenSpec.upto fnExactRetryOpSpec)

end Rows
end Go.Proofs.YtlpbeejmefhpeaaGreat

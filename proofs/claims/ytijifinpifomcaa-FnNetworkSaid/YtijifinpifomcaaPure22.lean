/- More plain facts. No condition. -/
import Derived.Test.YtijifinpifomcaaPure21
set_option linter.unusedVariables false
set_option linter.unusedSimpArgs false
set_option linter.unusedVariables false
set_option linter.unusedSimpArgs false
namespace Go.Abs
open Go
noncomputable section
def comI : List Int → List Int → Nat
  | x :: xs, y :: ys => if x = y then comI xs ys + 1 else 0
  | _, _ => 0
def firstD (a b : List Int) : Int := if comI a b < a.length ∧ comI a b < b.length then (comI a b : Int) else if (a.length : Int) = b.length then -1 else if (b.length : Int) < a.length then (b.length : Int) else (a.length : Int)
def scrubD (c : Clu) (id : Int) (i : Nat) : Int := firstD (digL (comPart (at' c.srvs id.toNat))) (digL (comPart (at' c.srvs i)))
def scrubAt (c : Clu) (id : Int) (i : Nat) : Option Dmg := if dataSrv c i = true ∧ (at' c.srvs i).conf = (at' c.srvs id.toNat).conf ∧ 0 ≤ scrubD c id i then some ⟨i, scrubD c id i - 1⟩ else none
def scrubTo (c : Clu) (id : Int) (n : Nat) : List Dmg := (List.range n).filterMap (scrubAt c id)
def scrub (c : Clu) (id : Int) : List Dmg := if dataSrv c id = true then scrubTo c id 5 else []
end
end Go.Abs

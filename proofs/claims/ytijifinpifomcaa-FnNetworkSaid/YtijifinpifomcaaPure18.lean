/- More plain facts. No condition. -/
import Derived.Test.YtijifinpifomcaaPure17
set_option linter.unusedVariables false
set_option linter.unusedSimpArgs false
set_option linter.unusedVariables false
set_option linter.unusedSimpArgs false
namespace Go.Abs
noncomputable section
structure NextB (c : Clu) (want wits : Int) : Prop where
  v : validClu c = true
  w : inR want 1 3 = true
  x : inR wits 0 1 = true
  l : (c.mast.confs.length : Int) < 20
structure RepB (c : Clu) (term : Int) : Prop where
  v : validClu c = true
  t : inR term 1 50 = true
structure RepC (c : Clu) (w t : Int) : Prop extends RepB c t where
  s : isServing c = false
  n : (nextC c w 0).2 = true
structure CostI (c : Clu) (l : List LEnt) (rs : List Int) (R : Int) (i : Nat) (n : Int) : Prop where
  run : costGo c l (rs.drop i) n = R
  lo : 0 ≤ n
  hi : n ≤ 1048576 * i
theorem CostI.next {c : Clu} {l : List LEnt} {rs : List Int} {R : Int} {i : Nat} {n : Int} (h : CostI c l rs R i n) (hi : i < rs.length) (hl : l.length ≤ 1048576) : CostI c l rs R (i + 1) (n + (l.length - (hasOf (at' c.srvs (at' rs i).toNat) (at' rs i) l : Nat))) := by
  have q := hasOf_len (at' c.srvs (at' rs i).toNat) (at' rs i) l
  have q1 := h.lo; have q2 := h.hi
  exact ⟨costGo_s hi h.run, by omega, by push_cast; omega⟩
end
end Go.Abs

/- More plain facts. No condition. -/
import Derived.Test.YtijifinpifomcaaGreatPure17
set_option linter.unusedVariables false
set_option linter.unusedSimpArgs false
namespace Go.Abs
noncomputable section
structure NextB (c : Clu) (want wits : Int) : Prop where
  v : validClu c = true
  w : inR want 1 3 = true
  x : inR wits 0 1 = true
  l : (c.mast.confs.length : Int) < 20
structure RepB (c : Clu) (term : Int) : Prop where
  v : validClu c = true
  t : inR term 1 50 = true
structure RepC (c : Clu) (w t : Int) : Prop extends RepB c t where
  s : isServing c = false
  n : (nextC c w 0).2 = true
theorem markE_take (l : List LEnt) (k : Int) : (markE l k).take l.length = markE l k := List.take_of_length_le (by rw [markE_len]; exact Nat.le_refl _)
theorem heldE_m (l : List LEnt) : heldE (markE l 1) 1 = 1 + 7 * l.length := heldE_mark l 1
theorem heldC_m {epoch primary : Int} {reps wits : List Int} : heldC ⟨epoch, primary, markI reps 1, markI wits (1 + (reps.length : Int))⟩ 1 = 1 + (reps.length : Int) + wits.length := heldC_mark (c := ⟨epoch, primary, reps, wits⟩) (by decide)
structure CostI (c : Clu) (l : List LEnt) (rs : List Int) (R : Int) (i : Nat) (n : Int) : Prop where
  run : costGo c l (rs.drop i) n = R
  lo : 0 ≤ n
  hi : n ≤ 1048576 * i
theorem CostI.le {c : Clu} {l : List LEnt} {rs : List Int} {R : Int} {i : Nat} {n : Int} (h : CostI c l rs R i n) (hi : i ≤ rs.length) (hr : rs.length ≤ 1048576) : 0 ≤ n ∧ n ≤ 1099511627776 := by
  have := h.lo; have := h.hi; omega
theorem CostI.next {c : Clu} {l : List LEnt} {rs : List Int} {R : Int} {i : Nat} {n : Int} (h : CostI c l rs R i n) (hi : i < rs.length) (hl : l.length ≤ 1048576) : CostI c l rs R (i + 1) (n + (l.length - (hasOf (at' c.srvs (at' rs i).toNat) (at' rs i) l : Nat))) := by
  have q := hasOf_len (at' c.srvs (at' rs i).toNat) (at' rs i) l
  have q1 := h.lo; have q2 := h.hi
  exact ⟨costGo_s hi h.run, by omega, by push_cast; omega⟩
theorem CostI.start {c : Clu} {x : Conf} (h1 : validConf x = true) (h2 : (srcLog c x.primary).isSome = true) : CostI c ((srcLog c x.primary).getD []) x.reps (cost c x) 0 0 := ⟨(cost_y h1 h2).symm, by decide, by decide⟩
end
end Go.Abs

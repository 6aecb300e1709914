/- More plain facts. No condition. -/
import Derived.Test.YtijifinpifomcaaPlain
set_option linter.unusedVariables false
set_option linter.unusedSimpArgs false
set_option linter.unusedVariables false
set_option linter.unusedSimpArgs false
namespace Go.Abs
noncomputable section
theorem pushTo_B {c : Clu} {id m : Int} (h : CluB c) : CluB (pushTo c id m).1 := by
  unfold pushTo; split
  · refine setSrv_B h ?_
    split
    · refine ⟨(h.at _).conf, ?_, (h.at _).learned⟩
      show (cutTail (srvAt c id).log).2.length ≤ 1048576
      have := (h.at id.toNat).log
      unfold cutTail; split
      · simp only [List.length_drop]
        have : (srvAt c id).log.length ≤ 1048576 := this
        omega
      · simp
    · exact ⟨(h.at _).conf, (h.at _).log, (h.at _).learned⟩
  · exact h
end
end Go.Abs

/- More plain facts. No condition. -/
import Derived.Test.YtlfoangodjgeaaaPlain
set_option linter.unusedVariables false
set_option linter.unusedSimpArgs false
namespace Go.Abs
noncomputable section
theorem comPre_self : ∀ a : List LEnt, comPre a a = a.length
  | [] => rfl
  | x :: a => by simp [comPre, comPre_self a]
theorem isPre_eq : ∀ {a b : List LEnt}, a.length = b.length → isPre a b = decide (a = b)
  | [], [], h => by simp [isPre, comPre]
  | [], _ :: _, h => by simp at h
  | _ :: _, [], h => by simp at h
  | x :: a, y :: b, h => by
    have ih := isPre_eq (a := a) (b := b) (by simpa using h)
    unfold isPre at ih ⊢
    by_cases e : x = y
    · subst e
      simp only [comPre, if_true, List.length_cons]
      rw [Bool.eq_iff_iff] at ih ⊢
      simp only [beq_iff_eq, decide_eq_true_eq, List.cons.injEq, true_and] at ih ⊢
      rw [← ih]; push_cast; omega
    · simp only [comPre, if_neg e, List.length_cons]
      rw [Bool.eq_iff_iff]
      simp only [beq_iff_eq, decide_eq_true_eq, List.cons.injEq]
      constructor
      · intro h2; push_cast at h2; omega
      · intro h2; exact absurd h2.1 e
theorem isPre_1 {a b : List LEnt} (h1 : (a.length : Int) = b.length) (h : isPre a b = true) : a = b := by
  rw [isPre_eq (by omega)] at h; simpa using h
theorem isPre_0 {a b : List LEnt} (h : isPre a b = false) : ¬ a = b := by
  rintro rfl; rw [isPre_eq rfl] at h; simp at h
/-- where a member's log is pushed to -/
theorem pushTo_B {c : Clu} {id m : Int} (h : CluB c) : CluB (pushTo c id m).1 := by
  unfold pushTo; split
  · refine setSrv_B h ?_
    split
    · refine ⟨(h.at _).conf, ?_, (h.at _).learned⟩
      show (cutTail (srvAt c id).log).2.length ≤ 1048576
      have := (h.at id.toNat).log
      unfold cutTail; split
      · simp only [List.length_drop]
        have : (srvAt c id).log.length ≤ 1048576 := this
        omega
      · simp
    · exact ⟨(h.at _).conf, (h.at _).log, (h.at _).learned⟩
  · exact h
end
end Go.Abs

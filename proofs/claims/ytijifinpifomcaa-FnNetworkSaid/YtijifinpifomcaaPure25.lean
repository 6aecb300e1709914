/- More plain facts. No condition. -/
import Derived.Test.YtijifinpifomcaaPure24
set_option linter.unusedVariables false
set_option linter.unusedSimpArgs false
set_option linter.unusedVariables false
set_option linter.unusedSimpArgs false
namespace Go.Abs
open Go
noncomputable section
theorem bef_le (l : List Sess) (c : Int) : before l c ≤ l.length := by
  unfold before
  exact (List.takeWhile_sublist _).length_le
theorem ap_len (m : Mach) (o : ROp) : (applyOp m o).1.objs.length = m.objs.length ∧ (applyOp m o).1.sess.length ≤ m.sess.length + 1 := by
  unfold applyOp stepOp
  split
  · split
    · split
      · exact ⟨rfl, by simp⟩
      · split
        · exact ⟨rfl, by simp⟩
        · refine ⟨?_, by simp⟩
          dsimp only; split <;> simp
    · refine ⟨?_, ?_⟩
      · dsimp only; split <;> simp
      · have := bef_le m.sess o.client
        simp only [if_false, Bool.false_eq_true, List.length_append, List.length_take, List.length_cons, List.length_drop]
        omega
  · exact ⟨rfl, by simp⟩
structure RepI (l : List LEnt) (i : Nat) (m : Mach) : Prop where
  e : m = replayM (l.take i)
  o : m.objs.length = 3
  s : m.sess.length ≤ i
theorem RepI.b {l : List LEnt} {i : Nat} {m : Mach} (h : RepI l i m) (hi : i ≤ 1048576) : MachB m := ⟨by rw [h.o]; decide, Nat.le_trans h.s hi⟩
theorem RepI.next {l : List LEnt} {i : Nat} {m : Mach} (h : RepI l i m) (hi : i < l.length) : RepI l (i + 1) (applyOp m (at' l i).op).1 := by
  have q := ap_len m (at' l i).op
  refine ⟨?_, by rw [q.1, h.o], by have := h.s; omega⟩
  rw [h.e, E.take_at hi]
  simp only [replayM, List.foldl_append, List.foldl_cons, List.foldl_nil]
end
end Go.Abs

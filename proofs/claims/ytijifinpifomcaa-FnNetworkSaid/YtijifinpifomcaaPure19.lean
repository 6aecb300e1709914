/- More plain facts. No condition. -/
import Derived.Test.YtijifinpifomcaaPure18
set_option linter.unusedVariables false
set_option linter.unusedSimpArgs false
set_option linter.unusedVariables false
set_option linter.unusedSimpArgs false
namespace Go.Abs
noncomputable section
theorem mside_len (l : List Int) : (masterSide l).length ≤ l.length := by
  have key : ∀ (l : List Int) (i : Nat), (msGo i l).length ≤ l.length := by
    intro l
    induction l with
    | nil => intro i; simp [msGo]
    | cons x l ih =>
      intro i
      have := ih (i + 1)
      simp only [msGo]; split
      · simp only [List.length_cons]; omega
      · simp only [List.length_cons]; omega
  unfold masterSide; split
  · exact key l 0
  · simp
structure WitO (c : Clu) (id : Int) (i : Nat) (o : Option (List LEnt)) : Prop where
  run : (if ((lastAct c.mast).2 && hasSrv c id) = true then witOut c id (lastAct c.mast).1.epoch ((lastAct c.mast).1.wits.drop i) o else o) = witLog c id
  len : (o.getD []).length ≤ 16
theorem WitO.no {c : Clu} {id : Int} {i : Nat} {o : Option (List LEnt)} (h : WitO c id i o) (hi : i < (lastAct c.mast).1.wits.length) (hn : hasEpoch c id (at' (lastAct c.mast).1.wits i) (lastAct c.mast).1.epoch = false) : WitO c id (i + 1) o := by
  refine ⟨?_, h.len⟩
  have := h.run
  split at this
  · rename_i hc; rw [if_pos hc]; exact witOut_n hi this hn
  · rename_i hc; rw [if_neg hc]; exact this
structure WitK (c : Clu) (id : Int) (w : Srv) (R : Option (List LEnt)) (k : Nat) (p : Option (List LEnt)) : Prop where
  run : witIn c id w k (c.srvs.drop k) p = R
  len : (p.getD []).length ≤ 16
theorem WitK.no {c : Clu} {id : Int} {w : Srv} {R p : Option (List LEnt)} {k : Nat} (h : WitK c id w R k p) (hk : k < c.srvs.length) (hn : (at' c.srvs k).up = false ∨ sameSide c.sides id k = false ∨ (joinTail (comData (at' c.srvs k) k) w.first w.log).isSome = false) : WitK c id w R (k + 1) p := ⟨witIn_no hk h.run hn, h.len⟩
theorem WitO.out {c : Clu} {id : Int} {i : Nat} {o : Option (List LEnt)} (h : WitO c id i o) (hn : (lastAct c.mast).2 = false ∨ validClu c = false ∨ inR id 0 4 = false) : o = witLog c id := by
  have := h.run
  rw [if_neg] at this
  · exact this
  · simp only [hasSrv, Bool.and_eq_true]
    rintro ⟨a, b, d⟩
    rcases hn with hn | hn | hn
    · rw [a] at hn; simp at hn
    · rw [b] at hn; simp at hn
    · rw [d] at hn; simp at hn
end
end Go.Abs

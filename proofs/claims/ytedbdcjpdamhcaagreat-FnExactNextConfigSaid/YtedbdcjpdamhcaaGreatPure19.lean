/- More plain facts. No condition. -/
import Derived.Test.YtedbdcjpdamhcaaGreatPure18
set_option linter.unusedVariables false
set_option linter.unusedSimpArgs false
namespace Go.Abs
noncomputable section
theorem mside_len (l : List Int) : (masterSide l).length ≤ l.length := by
  have key : ∀ (l : List Int) (i : Nat), (msGo i l).length ≤ l.length := by
    intro l
    induction l with
    | nil => intro i; simp [msGo]
    | cons x l ih =>
      intro i
      have := ih (i + 1)
      simp only [msGo]; split
      · simp only [List.length_cons]; omega
      · simp only [List.length_cons]; omega
  unfold masterSide; split
  · exact key l 0
  · simp
theorem kept_eq (c : Clu) : ((lastAct c.mast).1.reps.filter fun id => !(!usable c id || ((srvAt c id).conf.epoch != (lastAct c.mast).1.epoch))) = keptS c := by
  unfold keptS keepF
  congr 1
  funext id
  cases usable c id <;> simp [bne]
theorem nextC_t {c : Clu} {want wits : Int} (h : NextB c want wits) (h0 : ¬ ((nextR c want).length : Int) = 0) : (nextC c want wits).2 = true ∧ (nextC c want wits).1.epoch = c.mast.confs.length + 1 ∧ (nextC c want wits).1.reps = nextR c want := by
  rw [nextC_y h h0]; exact ⟨rfl, rfl, rfl⟩
theorem nextC_p1 {c : Clu} {want wits : Int} (h : NextB c want wits) (h0 : ¬ ((nextR c want).length : Int) = 0) (h1 : 0 < (lastAct c.mast).1.epoch) (h2 : (nextR c want).contains (lastAct c.mast).1.primary = true) : (lastAct c.mast).1.primary = (nextC c want wits).1.primary := by
  rw [nextC_y h h0]; dsimp only; rw [if_pos ⟨h1, h2⟩]
theorem nextC_p2 {c : Clu} {want wits : Int} (h : NextB c want wits) (h0 : ¬ ((nextR c want).length : Int) = 0) (h1 : ¬ 0 < (lastAct c.mast).1.epoch ∨ (nextR c want).contains (lastAct c.mast).1.primary = false) : at' (nextR c want) 0 = (nextC c want wits).1.primary := by
  rw [nextC_y h h0]; dsimp only; rw [if_neg]
  rintro ⟨a, b⟩
  rcases h1 with h1 | h1
  · exact h1 a
  · rw [b] at h1; simp at h1
theorem nextC_w1 {c : Clu} {want wits : Int} (h : NextB c want wits) (h0 : ¬ ((nextR c want).length : Int) = 0) (h1 : wits = 1) (h2 : 0 ≤ spare c.plcs (nextR c want) (without [0, 1, 2, 3, 4] (aliveS c))) : [spare c.plcs (nextR c want) (without [0, 1, 2, 3, 4] (aliveS c))] = (nextC c want wits).1.wits := by
  rw [nextC_y h h0]; dsimp only; rw [if_pos ⟨h1, h2⟩]
theorem nextC_w2 {c : Clu} {want wits : Int} (h : NextB c want wits) (h0 : ¬ ((nextR c want).length : Int) = 0) (h1 : ¬ wits = 1 ∨ spare c.plcs (nextR c want) (without [0, 1, 2, 3, 4] (aliveS c)) < 0) : [] = (nextC c want wits).1.wits := by
  rw [nextC_y h h0]; dsimp only; rw [if_neg]
  rintro ⟨a, b⟩
  rcases h1 with h1 | h1
  · exact h1 a
  · omega
structure WitO (c : Clu) (id : Int) (i : Nat) (o : Option (List LEnt)) : Prop where
  run : (if ((lastAct c.mast).2 && hasSrv c id) = true then witOut c id (lastAct c.mast).1.epoch ((lastAct c.mast).1.wits.drop i) o else o) = witLog c id
  len : (o.getD []).length ≤ 16
theorem WitO.start (c : Clu) (id : Int) : WitO c id 0 none := ⟨rfl, by simp⟩
theorem WitO.no {c : Clu} {id : Int} {i : Nat} {o : Option (List LEnt)} (h : WitO c id i o) (hi : i < (lastAct c.mast).1.wits.length) (hn : hasEpoch c id (at' (lastAct c.mast).1.wits i) (lastAct c.mast).1.epoch = false) : WitO c id (i + 1) o := by
  refine ⟨?_, h.len⟩
  have := h.run
  split at this
  · rename_i hc; rw [if_pos hc]; exact witOut_n hi this hn
  · rename_i hc; rw [if_neg hc]; exact this
structure WitK (c : Clu) (id : Int) (w : Srv) (R : Option (List LEnt)) (k : Nat) (p : Option (List LEnt)) : Prop where
  run : witIn c id w k (c.srvs.drop k) p = R
  len : (p.getD []).length ≤ 16
theorem WitK.start {c : Clu} {id : Int} {w : Srv} {i : Nat} {o : Option (List LEnt)} (h : WitO c id i o) : WitK c id w (witIn c id w 0 c.srvs o) 0 o := ⟨rfl, h.len⟩
theorem WitK.no {c : Clu} {id : Int} {w : Srv} {R p : Option (List LEnt)} {k : Nat} (h : WitK c id w R k p) (hk : k < c.srvs.length) (hn : (at' c.srvs k).up = false ∨ sameSide c.sides id k = false ∨ (joinTail (comData (at' c.srvs k) k) w.first w.log).isSome = false) : WitK c id w R (k + 1) p := ⟨witIn_no hk h.run hn, h.len⟩
theorem WitO.fin {c : Clu} {id : Int} {i : Nat} {o : Option (List LEnt)} (h : WitO c id i o) (hi : (lastAct c.mast).1.wits.length ≤ i) : o = witLog c id := by
  have := h.run
  split at this
  · exact witOut_e hi this
  · exact this
theorem WitO.out {c : Clu} {id : Int} {i : Nat} {o : Option (List LEnt)} (h : WitO c id i o) (hn : (lastAct c.mast).2 = false ∨ validClu c = false ∨ inR id 0 4 = false) : o = witLog c id := by
  have := h.run
  rw [if_neg] at this
  · exact this
  · simp only [hasSrv, Bool.and_eq_true]
    rintro ⟨a, b, d⟩
    rcases hn with hn | hn | hn
    · rw [a] at hn; simp at hn
    · rw [b] at hn; simp at hn
    · rw [d] at hn; simp at hn
end
end Go.Abs

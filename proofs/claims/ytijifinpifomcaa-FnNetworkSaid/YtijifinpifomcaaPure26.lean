/- More plain facts. No condition. -/
import Derived.Test.YtijifinpifomcaaPure25
set_option linter.unusedVariables false
set_option linter.unusedSimpArgs false
set_option linter.unusedVariables false
set_option linter.unusedSimpArgs false
namespace Go.Abs
open Go
noncomputable section
theorem ao_1o {c : Clu} {id : Int} {o : ROp} (h : validOp o = false) : appendOn c id o = (c, 1) := by simp [appendOn, h]
section
variable {c : Clu} {id : Int} {o : ROp} (hp : primAt c id = true) (ho : validOp o = true)
include hp ho
theorem ao_go : appendOn c id o = (if 0 ≤ findOp (at' c.srvs id.toNat).log o.client o.seq then (c, if (at' (at' c.srvs id.toNat).log (findOp (at' c.srvs id.toNat).log o.client o.seq).toNat).op = o then 0 else 11)
    else if (applyOp (replay (at' c.srvs id.toNat).log).1 o).2.2 then
      if isNew o = true ∧ groupFmt c id < 2 then (c, 6) else if ((at' c.srvs id.toNat).log.length : Int) = 16 then (c, 5)
      else (setSrv c id (setLog (at' c.srvs id.toNat) ((at' c.srvs id.toNat).log ++ [⟨(at' c.srvs id.toNat).epoch, o⟩])), 0)
    else (c, 11)) := by
  have q := primAt_of hp
  have q1 := primNow_of q.2
  unfold appendOn
  rw [if_pos (by rw [q.1, ho]; rfl), if_pos (show (srvAt c id).up = true from q1.2.1), if_pos (show primNow (srvAt c id) id = true from q.2)]
  rfl
end
theorem ao_cases (c : Clu) (id : Int) (o : ROp) : (appendOn c id o).1 = c ∨ (primAt c id = true ∧ (at' c.srvs id.toNat).log.length ≠ 16 ∧ (appendOn c id o).1 = setSrv c id (setLog (at' c.srvs id.toNat) ((at' c.srvs id.toNat).log ++ [⟨(at' c.srvs id.toNat).epoch, o⟩]))) := by
  by_cases hp : primAt c id = true
  · by_cases ho : validOp o = true
    · rw [ao_go hp ho]
      split
      · exact .inl rfl
      · split
        · split
          · exact .inl rfl
          · split
            · exact .inl rfl
            · rename_i h; exact .inr ⟨hp, by omega, rfl⟩
        · exact .inl rfl
    · rw [ao_1o (by simpa using ho)]; exact .inl rfl
  · left
    unfold appendOn
    split
    · rename_i h1
      simp only [Bool.and_eq_true] at h1
      split
      · split
        · rename_i h3; exact absurd (by simp [primAt, h1.1, h3]) hp
        · rfl
      · rfl
    · rfl
theorem appendOn_B {c : Clu} {id : Int} {o : ROp} (h : CluB c) : CluB (appendOn c id o).1 := by
  rcases ao_cases c id o with q | ⟨hp, _, q⟩ <;> rw [q]
  · exact h
  · have q2 := primAt_log hp
    refine setSrv_B h ⟨(h.at _).conf, ?_, (h.at _).learned⟩
    simp only [setLog, List.length_append, List.length_cons, List.length_nil]
    omega
theorem co_n {c : Clu} {id : Int} {o : ROp} (h : ¬ (appendOn c id o).2 = 0) : clientOp c id o = ((appendOn c id o).1, rep0 (appendOn c id o).2) := by simp [clientOp, h]
theorem co_p {c : Clu} {id : Int} {o : ROp} (h : (appendOn c id o).2 = 0) (h2 : (at' (appendOn c id o).1.srvs id.toNat).commit ≤ findOp (at' (appendOn c id o).1.srvs id.toNat).log o.client o.seq) (h3 : (commitP (appendOn c id o).1 id).2 = false) : clientOp c id o = ((commitP (appendOn c id o).1 id).1, rep0 4) := by
  unfold clientOp; simp [srvAt, h, h2, h3]
theorem co_c {c : Clu} {id : Int} {o : ROp} (h : (appendOn c id o).2 = 0) (h2 : (at' (appendOn c id o).1.srvs id.toNat).commit ≤ findOp (at' (appendOn c id o).1.srvs id.toNat).log o.client o.seq) (h3 : (commitP (appendOn c id o).1 id).2 = true) : clientOp c id o = ((commitP (appendOn c id o).1 id).1, ⟨0, (resAt (at' (commitP (appendOn c id o).1 id).1.srvs id.toNat).log (findOp (at' (appendOn c id o).1.srvs id.toNat).log o.client o.seq)).1, findOp (at' (appendOn c id o).1.srvs id.toNat).log o.client o.seq⟩) := by
  unfold clientOp; simp [srvAt, h, h2, h3]
theorem co_y {c : Clu} {id : Int} {o : ROp} (h : (appendOn c id o).2 = 0) (h2 : ¬ (at' (appendOn c id o).1.srvs id.toNat).commit ≤ findOp (at' (appendOn c id o).1.srvs id.toNat).log o.client o.seq) : clientOp c id o = ((appendOn c id o).1, ⟨0, (resAt (at' (appendOn c id o).1.srvs id.toNat).log (findOp (at' (appendOn c id o).1.srvs id.toNat).log o.client o.seq)).1, findOp (at' (appendOn c id o).1.srvs id.toNat).log o.client o.seq⟩) := by
  unfold clientOp; simp [srvAt, h, h2]
theorem clientOp_B {c : Clu} {id : Int} {o : ROp} (h : CluB c) : CluB (clientOp c id o).1 := by
  by_cases h1 : (appendOn c id o).2 = 0
  · by_cases h2 : (at' (appendOn c id o).1.srvs id.toNat).commit ≤ findOp (at' (appendOn c id o).1.srvs id.toNat).log o.client o.seq
    · cases h3 : (commitP (appendOn c id o).1 id).2 with
      | false => rw [co_p h1 h2 h3]; exact commitP_B (appendOn_B h)
      | true => rw [co_c h1 h2 h3]; exact commitP_B (appendOn_B h)
    · rw [co_y h1 h2]; exact appendOn_B h
  · rw [co_n h1]; exact appendOn_B h
structure RetI (c : Clu) (ids : List Int) (o : ROp) (i : Nat) (x : Clu) (r : Rep) : Prop where
  b : CluB x
  e : retryGo o ((ids.take 10).drop i) (x, r) = retryOp c ids o
theorem ret_at {ids : List Int} {i : Nat} (hi : i < ids.length) (h10 : i < 10) : (ids.take 10).drop i = at' ids i :: (ids.take 10).drop (i + 1) := by
  have hl : i < (ids.take 10).length := by rw [List.length_take]; omega
  rw [drop_at hl]
  congr 1
  unfold at'
  rw [List.getD_eq_getElem?_getD, List.getD_eq_getElem?_getD, List.getElem?_take_of_lt h10]
theorem RetI.next {c x : Clu} {ids : List Int} {o : ROp} {i : Nat} {r : Rep} (h : RetI c ids o i x r) (hi : i < ids.length) (h10 : i < 10) (hn : ¬ (clientOp x (at' ids i) o).2.code = 0) : RetI c ids o (i + 1) (clientOp x (at' ids i) o).1 (clientOp x (at' ids i) o).2 := by
  have q := h.e
  rw [ret_at hi h10] at q
  simp only [retryGo, if_neg hn] at q
  exact ⟨clientOp_B h.b, q⟩
end
end Go.Abs

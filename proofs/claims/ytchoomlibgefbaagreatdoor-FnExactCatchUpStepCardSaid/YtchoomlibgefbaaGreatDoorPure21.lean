/- More plain facts. No condition. -/
import Derived.Test.YtchoomlibgefbaaGreatDoorPure20
set_option linter.unusedVariables false
set_option linter.unusedSimpArgs false
namespace Go.Abs
open Go
noncomputable section
/-! catching up -/
def catchOk (c : Clu) (f t : Int) : Bool := validClu c && sameSide c.sides f t && (f != t) && (srvAt c f).up && (srvAt c t).up && isRep (srvAt c f) f && ((srvAt c f).conf.epoch == c.mast.act) && (roleOf (srvAt c f).conf t == 0)
def learnedK (s : Srv) (l : List LEnt) : Nat := if proves l s.learned.length (learnedD s) = true then s.learned.length else 0
def catchLeft (c : Clu) (f t : Int) : Int := if catchOk c f t = true then ((comPart (srvAt c f)).length : Int) - (learnedK (srvAt c t) (comPart (srvAt c f)) : Nat) else -1
theorem catchOk_n {c : Clu} {f t : Int} (h : validClu c = false ∨ sameSide c.sides f t = false ∨ f = t ∨ (at' c.srvs f.toNat).up = false ∨ (at' c.srvs t.toNat).up = false ∨ isRep (at' c.srvs f.toNat) f = false ∨ ¬ (at' c.srvs f.toNat).conf.epoch = c.mast.act ∨ ¬ roleOf (at' c.srvs f.toNat).conf t = 0) : catchOk c f t = false := by
  unfold catchOk srvAt
  rcases h with h | h | h | h | h | h | h | h <;> simp [h]
theorem catchOk_y {c : Clu} {f t : Int} (h1 : validClu c = true) (h2 : sameSide c.sides f t = true) (h3 : ¬ f = t) (h4 : (at' c.srvs f.toNat).up = true) (h5 : (at' c.srvs t.toNat).up = true) (h6 : isRep (at' c.srvs f.toNat) f = true) (h7 : (at' c.srvs f.toNat).conf.epoch = c.mast.act) (h8 : roleOf (at' c.srvs f.toNat).conf t = 0) : catchOk c f t = true := by
  unfold catchOk srvAt
  simp [h1, h2, h3, h4, h5, h6, h7, h8]
theorem catchOk_e {c : Clu} {f t : Int} (h1 : validClu c = true) (h2 : sameSide c.sides f t = true) (h3 : ¬ f = t) (h4 : (at' c.srvs f.toNat).up = true) (h5 : (at' c.srvs t.toNat).up = true) (h6 : isRep (at' c.srvs f.toNat) f = true) (h7 : (at' c.srvs f.toNat).conf.epoch = c.mast.act) : (roleOf (at' c.srvs f.toNat).conf t == 0) = catchOk c f t := by
  unfold catchOk srvAt
  simp [h1, h2, h3, h4, h5, h6, h7]
theorem hasSrv_cn {c : Clu} {f t : Int} (h : hasSrv c f = false) : catchOk c f t = false := by
  cases hv : validClu c with
  | false => exact catchOk_n (.inl hv)
  | true =>
    cases hs : sameSide c.sides f t with
    | false => exact catchOk_n (.inr (.inl hs))
    | true =>
      have q := sameSide_of hs
      have : hasSrv c f = true := by simp [hasSrv, hv, inR]; omega
      rw [h] at this; simp at this
theorem hasSrv_cn2 {c : Clu} {f t : Int} (h : hasSrv c t = false) : catchOk c f t = false := by
  cases hv : validClu c with
  | false => exact catchOk_n (.inl hv)
  | true =>
    cases hs : sameSide c.sides f t with
    | false => exact catchOk_n (.inr (.inl hs))
    | true =>
      have q := sameSide_of hs
      have : hasSrv c t = true := by simp [hasSrv, hv, inR]; omega
      rw [h] at this; simp at this
theorem catchL_n {c : Clu} {f t : Int} (h : catchOk c f t = false) : catchLeft c f t = -1 := by unfold catchLeft; rw [if_neg (by simp [h])]
theorem catchL_y {c : Clu} {f t : Int} (h : catchOk c f t = true) : catchLeft c f t = ((comPart (at' c.srvs f.toNat)).length : Int) - (learnedK (at' c.srvs t.toNat) (comPart (at' c.srvs f.toNat)) : Nat) := by unfold catchLeft; rw [if_pos h]; rfl
theorem catchOk_of {c : Clu} {f t : Int} (h : catchOk c f t = true) : validClu c = true ∧ c.srvs.length = 5 ∧ 0 ≤ f ∧ f ≤ 4 ∧ 0 ≤ t ∧ t ≤ 4 ∧ c.sides.length = 5 := by
  simp only [catchOk, Bool.and_eq_true] at h
  have q := sameSide_of h.1.1.1.1.1.1.2
  have q2 := validClu_of (c := c) h.1.1.1.1.1.1.1
  have q3 : hasSrv c f = true := by simp [hasSrv, h.1.1.1.1.1.1.1, inR]; omega
  have q4 := hasSrv_of q3
  exact ⟨h.1.1.1.1.1.1.1, q4.2.1, q.2.1, q.2.2.1, q.2.2.2.1, q.2.2.2.2, q.1⟩
theorem proves_le {l : List LEnt} {n : Nat} {d : Int} (h : proves l n d = true) : n ≤ l.length := by
  simp only [proves, Bool.and_eq_true, decide_eq_true_eq, beq_iff_eq] at h
  obtain ⟨h0, h1⟩ := h
  unfold digOf at h1
  split at h1
  · rename_i h2
    by_cases hl : isLog l = true
    · rw [digL_y hl, digUp_len] at h2; omega
    · have hl' : isLog l = false := by simpa using hl
      rw [digL_n hl'] at h2; simp at h2; omega
  · omega
theorem learnedK_le (s : Srv) (l : List LEnt) : learnedK s l ≤ l.length := by
  unfold learnedK
  split
  · rename_i h; exact proves_le h
  · omega
theorem learnedK_y {s : Srv} {l : List LEnt} (h : proves l s.learned.length (learnedD s) = true) : learnedK s l = s.learned.length := by unfold learnedK; rw [if_pos h]
theorem learnedK_n {s : Srv} {l : List LEnt} (h : proves l s.learned.length (learnedD s) = false) : learnedK s l = 0 := by unfold learnedK; rw [if_neg (by simp [h])]
theorem catchL_b (c : Clu) (f t : Int) : -1 ≤ catchLeft c f t ∧ catchLeft c f t ≤ (comPart (at' c.srvs f.toNat)).length := by
  unfold catchLeft srvAt
  split
  · have := learnedK_le (at' c.srvs t.toNat) (comPart (at' c.srvs f.toNat))
    omega
  · omega
theorem catchL_ok {c : Clu} {f t : Int} (h : ¬ catchLeft c f t < 0) : catchOk c f t = true := by
  cases hc : catchOk c f t with
  | true => rfl
  | false => rw [catchL_n hc] at h; omega
def catchN (c : Clu) (f t most : Int) : Int := if most < catchLeft c f t then most else catchLeft c f t
def catchStep (c : Clu) (f t most : Int) : Clu × Int :=
  if catchLeft c f t < 0 ∨ inR most 1 4 = false then (c, 0)
  else (setSrv c t (setLearned (srvAt c t) ((comPart (srvAt c f)).take (((comPart (srvAt c f)).length : Int) - catchLeft c f t + catchN c f t most).toNat)), catchN c f t most)
theorem catchS_1 {c : Clu} {f t most : Int} (h : catchLeft c f t < 0) : catchStep c f t most = (c, 0) := by unfold catchStep; rw [if_pos (.inl h)]
theorem catchS_2 {c : Clu} {f t most : Int} (h : inR most 1 4 = false) : catchStep c f t most = (c, 0) := by unfold catchStep; rw [if_pos (.inr h)]
theorem catchS_y {c : Clu} {f t most : Int} (h1 : ¬ catchLeft c f t < 0) (h2 : inR most 1 4 = true) : catchStep c f t most = (setSrv c t (setLearned (at' c.srvs t.toNat) ((comPart (at' c.srvs f.toNat)).take (((comPart (at' c.srvs f.toNat)).length : Int) - catchLeft c f t + (if most < catchLeft c f t then most else catchLeft c f t)).toNat)), (if most < catchLeft c f t then most else catchLeft c f t)) := by
  unfold catchStep; rw [if_neg (by simp [h2]; omega)]; rfl
theorem catchS_B {c : Clu} {f t most : Int} (h : CluB c) : CluB (catchStep c f t most).1 := by
  unfold catchStep
  split
  · exact h
  · refine setSrv_B h ⟨(h.at _).conf, (h.at _).log, ?_⟩
    have h1 := (h.at f.toNat).log
    have h2 := comPart_len (at' c.srvs f.toNat)
    simp only [setLearned, srvAt, List.length_take]
    omega
theorem catchN_b {c : Clu} {f t most : Int} (h1 : ¬ catchLeft c f t < 0) (h2 : inR most 1 4 = true) : 0 ≤ (if most < catchLeft c f t then most else catchLeft c f t) ∧ (if most < catchLeft c f t then most else catchLeft c f t) ≤ catchLeft c f t ∧ (if most < catchLeft c f t then most else catchLeft c f t) ≤ 4 := by
  have := inR_of h2
  split <;> omega
theorem rep_role {s : Srv} {id : Int} (h : roleOf s.conf id = 1 ∨ roleOf s.conf id = 2) : isRep s id = true := by
  have hv := role_valid (c := s.conf) (id := id) (by omega)
  exact (role_rep hv).1 h
theorem rep_nr {s : Srv} {id : Int} (hv : s.conf = noConf ∨ validConf s.conf = true) (h1 : ¬ roleOf s.conf id = 1) (h2 : ¬ roleOf s.conf id = 2) : isRep s id = false := by
  rcases hv with hv | hv
  · simp [isRep, hv, noConf]
  · have := (role_rep (id := id) hv).2
    cases h : isRep s id
    · rfl
    · rcases this h with h | h
      · exact absurd h h1
      · exact absurd h h2
theorem catchOk_nr {c : Clu} {f t : Int} (h1 : ¬ roleOf (at' c.srvs f.toNat).conf f = 1) (h2 : ¬ roleOf (at' c.srvs f.toNat).conf f = 2) : catchOk c f t = false := by
  cases hv : validClu c with
  | false => exact catchOk_n (.inl hv)
  | true =>
    cases hs : sameSide c.sides f t with
    | false => exact catchOk_n (.inr (.inl hs))
    | true =>
      have q := sameSide_of hs
      exact catchOk_n (.inr (.inr (.inr (.inr (.inr (.inl (rep_nr (srv_cv hv ⟨q.2.1, q.2.2.1⟩) h1 h2)))))))
end
end Go.Abs

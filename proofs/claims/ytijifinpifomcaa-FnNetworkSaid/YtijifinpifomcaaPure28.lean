/- More plain facts. No condition. -/
import Derived.Test.YtijifinpifomcaaPure27
set_option linter.unusedVariables false
set_option linter.unusedSimpArgs false
set_option linter.unusedVariables false
set_option linter.unusedSimpArgs false
namespace Go.Abs
open Go
noncomputable section
def reachN (l : List Int) (id : Int) : Nat → List Int
  | 0 => []
  | n + 1 => if sameSide l id n then reachN l id n ++ [(n : Int)] else reachN l id n
theorem reachN_len (l : List Int) (id : Int) : ∀ n, (reachN l id n).length ≤ n
  | 0 => Nat.le_refl _
  | n + 1 => by
    have ih := reachN_len l id n
    simp only [reachN]
    split
    · simp; omega
    · omega
theorem reachN_y {l : List Int} {id : Int} {n : Nat} (h : sameSide l id n = true) : reachN l id n ++ [(n : Int)] = reachN l id (n + 1) := by simp [reachN, h]
theorem reachN_n {l : List Int} {id : Int} {n : Nat} (h : sameSide l id n = false) : reachN l id n = reachN l id (n + 1) := by simp [reachN, h]
theorem reachN_has (l : List Int) (id : Int) : ∀ (n : Nat) (x : Int), (reachN l id n).contains x = (decide (0 ≤ x ∧ x < n) && sameSide l id x)
  | 0, x => by
    have : ¬ (0 ≤ x ∧ x < ((0 : Nat) : Int)) := by omega
    simp [reachN]; omega
  | n + 1, x => by
    have ih := reachN_has l id n x
    simp only [reachN]
    by_cases hx : x = n
    · subst hx
      split
      · rename_i h
        rw [Bool.eq_iff_iff]
        simp [h]
        omega
      · rename_i h
        rw [ih]
        simp [h]
    · have e : (decide (0 ≤ x ∧ x < ((n + 1 : Nat) : Int))) = decide (0 ≤ x ∧ x < (n : Int)) := by
        rw [decide_eq_decide]; omega
      rw [e, ← ih]
      split
      · rw [Bool.eq_iff_iff]
        simp [hx]
      · rfl
theorem ms_y {l : List Int} {i : Nat} {out r : List Int} (hi : i < l.length) (hR : out ++ msGo i (l.drop i) = r) (h : at' l i = 0) : out ++ [(i : Int)] ++ msGo (i + 1) (l.drop (i + 1)) = r := by
  rw [drop_at hi] at hR
  simp only [msGo, h, if_true] at hR
  rw [← hR]; simp
theorem ms_n {l : List Int} {i : Nat} {out r : List Int} (hi : i < l.length) (hR : out ++ msGo i (l.drop i) = r) (h : ¬ at' l i = 0) : out ++ msGo (i + 1) (l.drop (i + 1)) = r := by
  rw [drop_at hi] at hR
  simp only [msGo, h, if_false] at hR
  exact hR
theorem ms_e {l : List Int} {i : Nat} {out r : List Int} (hi : l.length ≤ i) (hR : out ++ msGo i (l.drop i) = r) : out = r := by
  rw [List.drop_of_length_le hi] at hR
  simpa [msGo] using hR
theorem master_y {l : List Int} (h : areSides l = true) : msGo 0 l = masterSide l := by rw [masterSide, if_pos h]
theorem master_n {l : List Int} (h : areSides l = false) : masterSide l = [] := by rw [masterSide, if_neg (by simp [h])]
theorem lhas_y {l : List Int} {i : Nat} {x : Int} (hi : i < l.length) (h : at' l i = x) : l.contains x = true := by
  rw [List.contains_iff_mem, ← h]
  exact E.at_mem hi
theorem lhas_s {l : List Int} {i : Nat} {x : Int} {r : Bool} (hi : i < l.length) (hR : (l.drop i).contains x = r) (h : ¬ at' l i = x) : (l.drop (i + 1)).contains x = r := by
  rw [drop_at hi, List.contains_cons] at hR
  rw [← hR]
  have : (x == at' l i) = false := by simp; exact fun e => h e.symm
  rw [this, Bool.false_or]
theorem lhas_e {l : List Int} {i : Nat} {x : Int} {r : Bool} (hi : l.length ≤ i) (hR : (l.drop i).contains x = r) : r = false := by
  rw [List.drop_of_length_le hi] at hR; exact hR.symm
theorem lsame_y {a b : List Int} {i : Nat} {r : Bool} (hl : a.length = b.length) (hi : i < a.length) (hR : decide (a.drop i = b.drop i) = r) (h : at' a i = at' b i) : decide (a.drop (i + 1) = b.drop (i + 1)) = r := by
  rw [drop_at hi, drop_at (by omega : i < b.length), h] at hR
  rw [← hR]
  simp
theorem lsame_n {a b : List Int} {i : Nat} {r : Bool} (hl : a.length = b.length) (hi : i < a.length) (hR : decide (a.drop i = b.drop i) = r) (h : ¬ at' a i = at' b i) : r = false := by
  rw [drop_at hi, drop_at (by omega : i < b.length)] at hR
  rw [← hR]
  simp [h]
theorem lsame_e {a b : List Int} {i : Nat} {r : Bool} (hl : a.length = b.length) (hi : a.length ≤ i) (hR : decide (a.drop i = b.drop i) = r) : r = true := by
  rw [List.drop_of_length_le hi, List.drop_of_length_le (by omega)] at hR
  rw [← hR]; simp
theorem lsame_l {a b : List Int} (hl : ¬ (a.length : Int) = b.length) : decide (a = b) = false := by
  rw [decide_eq_false_iff_not]; intro h; exact hl (by rw [h])
theorem move_of {l : List Int} {id s : Int} (h : (moveSide l id s).2 = true) : areSides (moveSide l id s).1 = true ∧ (moveSide l id s).1 = l.set id.toNat s ∧ inR id 0 4 = true ∧ inR s 0 3 = true ∧ l.length = 5 := by
  unfold moveSide at h ⊢
  split at h
  · rename_i h1
    rw [if_pos h1]
    simp only [Bool.and_eq_true] at h1
    obtain ⟨⟨h1, h2⟩, h3⟩ := h1
    refine ⟨?_, rfl, h2, h3, areSides_len h1⟩
    simp only [areSides, Bool.and_eq_true, beq_iff_eq, List.all_eq_true] at h1 ⊢
    refine ⟨by simpa using h1.1, fun x hx => ?_⟩
    rcases List.mem_or_eq_of_mem_set hx with hx | rfl
    · exact h1.2 x hx
    · exact h3
  · simp at h
theorem same_comm (l : List Int) (a b : Int) : sameSide l a b = sameSide l b a := by
  unfold sameSide
  rw [Bool.eq_iff_iff]
  simp only [Bool.and_eq_true, beq_iff_eq]
  constructor
  · rintro ⟨⟨⟨h1, h2⟩, h3⟩, h4⟩; exact ⟨⟨⟨h1, h3⟩, h2⟩, h4.symm⟩
  · rintro ⟨⟨⟨h1, h2⟩, h3⟩, h4⟩; exact ⟨⟨⟨h1, h3⟩, h2⟩, h4.symm⟩
theorem net_k {l : List Int} {id : Int} {k : Nat} (hk : k < 5) : (reachN l id 5).contains (k : Int) = sameSide l k id := by
  rw [reachN_has, same_comm]
  have : decide (0 ≤ (k : Int) ∧ (k : Int) < ((5 : Nat) : Int)) = true := by rw [decide_eq_true_eq]; omega
  rw [this, Bool.true_and]
theorem net_id {l : List Int} {id s : Int} (h : (moveSide l id s).2 = true) : (reachN (moveSide l id s).1 id 5).contains id = true := by
  obtain ⟨h1, _, h2, _, _⟩ := move_of h
  have q := inR_of h2
  rw [reachN_has]
  have e : decide (0 ≤ id ∧ id < ((5 : Nat) : Int)) = true := by rw [decide_eq_true_eq]; omega
  rw [e, Bool.true_and]
  simp [sameSide, h1, h2]
theorem net_m {l : List Int} {id s : Int} (h : (moveSide l id s).2 = true) : (masterSide (moveSide l id s).1).contains id = (s == 0) := by
  obtain ⟨h1, h2, h3, _, h5⟩ := move_of h
  have q := inR_of h3
  rw [masterSide, if_pos h1, Bool.eq_iff_iff, List.contains_iff_mem, msGo_mem, beq_iff_eq, h2]
  constructor
  · rintro ⟨k, hk, hk0, he⟩
    have : k = id.toNat := by omega
    subst this
    rw [List.length_set] at hk
    unfold at' at hk0
    rw [List.getD_eq_getElem?_getD, List.getElem?_set_self hk] at hk0
    exact hk0
  · intro hs
    refine ⟨id.toNat, by rw [List.length_set]; omega, ?_, by omega⟩
    unfold at'
    rw [List.getD_eq_getElem?_getD, List.getElem?_set_self (by omega)]
    exact hs
end
end Go.Abs

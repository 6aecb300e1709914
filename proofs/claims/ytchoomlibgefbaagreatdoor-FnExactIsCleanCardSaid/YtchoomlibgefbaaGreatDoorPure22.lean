/- More plain facts. No condition. -/
import Derived.Test.YtchoomlibgefbaaGreatDoorPure21
set_option linter.unusedVariables false
set_option linter.unusedSimpArgs false
namespace Go.Abs
open Go
noncomputable section
/-! where two lists of sums part -/
def comI : List Int → List Int → Nat
  | x :: xs, y :: ys => if x = y then comI xs ys + 1 else 0
  | _, _ => 0
def firstD (a b : List Int) : Int := if comI a b < a.length ∧ comI a b < b.length then (comI a b : Int) else if (a.length : Int) = b.length then -1 else if (b.length : Int) < a.length then (b.length : Int) else (a.length : Int)
theorem comI_le : ∀ (a b : List Int), comI a b ≤ a.length ∧ comI a b ≤ b.length
  | x :: xs, y :: ys => by
    simp only [comI]
    have := comI_le xs ys
    split
    · simp only [List.length_cons]; omega
    · simp
  | [], b => by simp [comI]
  | x :: xs, [] => by simp [comI]
theorem comI_s {a b : List Int} {i : Nat} (ha : i < a.length) (hb : i < b.length) (he : at' a i = at' b i) (h : i + comI (a.drop i) (b.drop i) = comI a b) : i + 1 + comI (a.drop (i + 1)) (b.drop (i + 1)) = comI a b := by
  rw [drop_at ha, drop_at hb] at h
  simp only [comI, he, if_true] at h
  omega
theorem firstD_f {a b : List Int} {i : Nat} (ha : i < a.length) (hb : i < b.length) (he : ¬ at' a i = at' b i) (h : i + comI (a.drop i) (b.drop i) = comI a b) : (i : Int) = firstD a b := by
  rw [drop_at ha, drop_at hb] at h
  simp only [comI, he, if_false] at h
  have : comI a b = i := by omega
  unfold firstD
  rw [this, if_pos ⟨ha, hb⟩]
theorem comI_end {a b : List Int} {i : Nat} (hi : i ≤ a.length) (hj : i ≤ b.length) (hx : a.length ≤ i ∨ b.length ≤ i) (h : i + comI (a.drop i) (b.drop i) = comI a b) : comI a b = i := by
  have h0 : comI (a.drop i) (b.drop i) = 0 := by
    have := comI_le (a.drop i) (b.drop i)
    simp only [List.length_drop] at this
    omega
  omega
theorem firstD_e {a b : List Int} {i : Nat} (hi : i ≤ a.length) (hj : i ≤ b.length) (hx : a.length ≤ i ∨ b.length ≤ i) (h : i + comI (a.drop i) (b.drop i) = comI a b) (he : (a.length : Int) = b.length) : -1 = firstD a b := by
  have := comI_end hi hj hx h
  unfold firstD
  rw [if_neg (by omega), if_pos he]
theorem firstD_n {a b : List Int} {i : Nat} (hi : i ≤ a.length) (hj : i ≤ b.length) (hx : a.length ≤ i ∨ b.length ≤ i) (h : i + comI (a.drop i) (b.drop i) = comI a b) (he : ¬ (a.length : Int) = b.length) : (if (b.length : Int) < a.length then (b.length : Int) else (a.length : Int)) = firstD a b := by
  have h0 := comI_end hi hj hx h
  have h1 : ¬ (comI a b < a.length ∧ comI a b < b.length) := by omega
  simp only [firstD, if_neg h1, if_neg he]
theorem firstD_b (a b : List Int) : -1 ≤ firstD a b ∧ firstD a b ≤ a.length := by
  have := comI_le a b
  unfold firstD
  split
  · omega
  · split
    · omega
    · split <;> omega
/-! the scrub -/
def scrubD (c : Clu) (id : Int) (i : Nat) : Int := firstD (digL (comPart (at' c.srvs id.toNat))) (digL (comPart (at' c.srvs i)))
def scrubAt (c : Clu) (id : Int) (i : Nat) : Option Dmg := if dataSrv c i = true ∧ (at' c.srvs i).conf = (at' c.srvs id.toNat).conf ∧ 0 ≤ scrubD c id i then some ⟨i, scrubD c id i - 1⟩ else none
def scrubTo (c : Clu) (id : Int) (n : Nat) : List Dmg := (List.range n).filterMap (scrubAt c id)
def scrub (c : Clu) (id : Int) : List Dmg := if dataSrv c id = true then scrubTo c id 5 else []
theorem scrubTo_len (c : Clu) (id : Int) (n : Nat) : (scrubTo c id n).length ≤ n := by
  unfold scrubTo
  have := List.length_filterMap_le (scrubAt c id) (List.range n)
  simpa using this
theorem scrubTo_y {c : Clu} {id : Int} {i : Nat} {out : List Dmg} (ho : out = scrubTo c id i) (h1 : dataSrv c i = true) (h2 : (at' c.srvs i).conf = (at' c.srvs id.toNat).conf) (h3 : 0 ≤ firstD (digL (comPart (at' c.srvs id.toNat))) (digL (comPart (at' c.srvs i)))) : out ++ [⟨(i : Int), firstD (digL (comPart (at' c.srvs id.toNat))) (digL (comPart (at' c.srvs i))) - 1⟩] = scrubTo c id (i + 1) := by
  subst ho
  unfold scrubTo
  rw [List.range_succ, List.filterMap_append]
  have : scrubAt c id i = some ⟨(i : Int), scrubD c id i - 1⟩ := by unfold scrubAt; rw [if_pos ⟨h1, h2, h3⟩]
  simp [this, scrubD]
theorem scrubTo_n {c : Clu} {id : Int} {i : Nat} {out : List Dmg} (ho : out = scrubTo c id i) (h : dataSrv c i = false ∨ ¬ (at' c.srvs i).conf = (at' c.srvs id.toNat).conf ∨ firstD (digL (comPart (at' c.srvs id.toNat))) (digL (comPart (at' c.srvs i))) < 0) : out = scrubTo c id (i + 1) := by
  subst ho
  unfold scrubTo
  rw [List.range_succ, List.filterMap_append]
  have : scrubAt c id i = none := by
    unfold scrubAt
    rw [if_neg]
    rintro ⟨h1, h2, h3⟩
    rcases h with h | h | h
    · rw [h] at h1; simp at h1
    · exact h h2
    · unfold scrubD at h3; omega
  simp [this]
theorem scrub_y {c : Clu} {id : Int} {i : Nat} {out : List Dmg} (h : dataSrv c id = true) (ho : out = scrubTo c id i) (h1 : 5 ≤ i) (h2 : i ≤ 5) : out = scrub c id := by
  obtain rfl : i = 5 := by omega
  unfold scrub; rw [if_pos h]; exact ho
theorem scrub_n {c : Clu} {id : Int} (h : dataSrv c id = false) : scrub c id = [] := by unfold scrub; rw [if_neg (by simp [h])]
def clean (c : Clu) : Bool := validClu c && (List.range 5).all fun i => (scrub c i).isEmpty
theorem clean_n {c : Clu} (h : validClu c = false) : clean c = false := by unfold clean; rw [h]; rfl
theorem dataSrv_v {c : Clu} {id : Int} (h : ¬ (scrub c id).length = 0) : dataSrv c id = true := by
  cases hd : dataSrv c id with
  | true => rfl
  | false => rw [scrub_n hd] at h; simp at h
theorem clean_f {c : Clu} {i : Nat} (h : ¬ (scrub c i).length = 0) : clean c = false := by
  have q := dataSrv_of (dataSrv_v h)
  cases hc : clean c with
  | false => rfl
  | true =>
    simp only [clean, Bool.and_eq_true] at hc
    have h1 := List.all_eq_true.1 hc.2 i (List.mem_range.2 (by omega))
    have h2 : scrub c i = [] := List.isEmpty_iff.1 h1
    rw [h2] at h; simp at h
theorem clean_e {c : Clu} {i : Nat} (h : ∀ k : Nat, k < i → scrub c k = []) (hi : c.srvs.length ≤ i) : validClu c = clean c := by
  cases hv : validClu c with
  | false => exact (clean_n hv).symm
  | true =>
    have q := validClu_of (c := c) hv
    unfold clean
    rw [hv]
    symm
    simp only [Bool.true_and, List.all_eq_true, List.mem_range]
    intro k hk
    have hl : c.srvs.length = 5 := by
      have := hasSrv_of (c := c) (id := 0) (by simp [hasSrv, hv, inR])
      exact this.2.1
    rw [h k (by omega)]; rfl
theorem clean_next {c : Clu} {i : Nat} (h : ∀ k : Nat, k < i → scrub c k = []) (h2 : (scrub c i).length = 0) : ∀ k : Nat, k < i + 1 → scrub c k = [] := by
  intro k hk
  by_cases e : k = i
  · subst e; exact List.eq_nil_of_length_eq_zero h2
  · exact h k (by omega)
end
end Go.Abs

/- More plain facts. No condition. -/
import Derived.Test.YtlpbeejmefhpeaaGreatPure23
set_option linter.unusedVariables false
set_option linter.unusedSimpArgs false
namespace Go.Abs
open Go
noncomputable section
structure MachB (m : Mach) : Prop where
  o : m.objs.length ≤ 1048576
  s : m.sess.length ≤ 1048576
def prevS (l : List Sess) (i : Nat) : Option Int := if i = 0 then none else some (at' l (i - 1)).client
theorem prevS_p {l : List Sess} {i : Nat} (h : 0 < i) : prevS l i = some (at' l (i - 1)).client := by rw [prevS, if_neg (by omega)]
theorem prevS_0 {l : List Sess} {i : Nat} (h : i = 0) : prevS l i = none := by rw [prevS, if_pos h]
theorem sess_at {l : List Sess} {i : Nat} (hi : i < l.length) : sessGo (prevS l i) (l.drop i) = (inR (at' l i).client 0 2 && (match prevS l i with
    | none => true
    | some y => decide (y < (at' l i).client)) && inR (at' l i).seq 1 99 && inR (at' l i).res.val 0 9 && sessGo (prevS l (i + 1)) (l.drop (i + 1))) := by
  rw [drop_at hi]; rfl
theorem sess_n {l : List Sess} {i : Nat} {r : Bool} (hi : i < l.length) (hR : sessGo (prevS l i) (l.drop i) = r) (h : inR (at' l i).client 0 2 = false ∨ (0 < i ∧ (at' l i).client ≤ (at' l (i - 1)).client) ∨ inR (at' l i).seq 1 99 = false ∨ inR (at' l i).res.val 0 9 = false) : r = false := by
  rw [sess_at hi] at hR
  rw [← hR]
  rcases h with h | ⟨h1, h2⟩ | h | h
  · simp [h]
  · rw [prevS_p h1]; simp; intro _ h3; omega
  · simp [h]
  · simp [h]
theorem sess_y {l : List Sess} {i : Nat} {r : Bool} (hi : i < l.length) (hR : sessGo (prevS l i) (l.drop i) = r) (h1 : inR (at' l i).client 0 2 = true) (h2 : i = 0 ∨ (at' l (i - 1)).client < (at' l i).client) (h3 : inR (at' l i).seq 1 99 = true) (h4 : inR (at' l i).res.val 0 9 = true) : sessGo (prevS l (i + 1)) (l.drop (i + 1)) = r := by
  rw [sess_at hi] at hR
  rw [← hR, h1, h3, h4]
  generalize sessGo (prevS l (i + 1)) (l.drop (i + 1)) = q
  by_cases h0 : i = 0
  · rw [prevS_0 h0]; simp
  · rcases h2 with h2 | h2
    · exact absurd h2 h0
    · rw [prevS_p (by omega)]; simp [h2]
theorem sess_e {l : List Sess} {i : Nat} {r : Bool} (hi : l.length ≤ i) (hR : sessGo (prevS l i) (l.drop i) = r) : r = true := by
  rw [List.drop_of_length_le hi] at hR; exact hR.symm
theorem vm_l {m : Mach} (h : ¬ (m.objs.length : Int) = 3) : validMach m = false := by
  unfold validMach; simp [h]
theorem vm_o {m : Mach} (h : (m.objs.any fun v => !inR v 0 9) = true) : validMach m = false := by
  have : m.objs.all (fun v => inR v 0 9) = false := by
    rw [List.any_eq_true] at h
    obtain ⟨x, hx, hv⟩ := h
    rw [List.all_eq_false]
    exact ⟨x, hx, by simpa using hv⟩
  unfold validMach; rw [this]; simp
theorem vm_a {m : Mach} (h : (m.objs.any fun v => !inR v 0 9) = false) : m.objs.all (fun v => inR v 0 9) = true := by
  rw [List.all_eq_true]
  intro x hx
  rw [List.any_eq_false] at h
  simpa using h x hx
theorem vm_s {m : Mach} (h1 : (m.objs.length : Int) = 3) (h2 : m.objs.all (fun v => inR v 0 9) = true) : validMach m = sessGo none m.sess := by
  unfold validMach; rw [h2]; simp [h1]
theorem vm_e {m : Mach} (h2 : m.objs.all (fun v => inR v 0 9) = true) (h3 : sessGo none m.sess = true) : ((m.objs.length : Int) == 3) = validMach m := by
  unfold validMach; rw [h2, h3]; simp
theorem vm_f {m : Mach} (h3 : sessGo none m.sess = false) : validMach m = false := by
  unfold validMach; rw [h3]; simp
theorem vm_g {m : Mach} (h : m.objs.all (fun v => inR v 0 9) = false) : validMach m = false := by
  unfold validMach; rw [h]; simp
theorem vm_of {m : Mach} (h : validMach m = true) : m.objs.length = 3 ∧ m.objs.all (fun v => inR v 0 9) = true ∧ sessGo none m.sess = true := by
  simp only [validMach, Bool.and_eq_true, beq_iff_eq] at h
  exact ⟨by omega, h.1.2, h.2⟩
theorem sessOf_drop {l : List Sess} {c : Int} {i : Nat} {r : Option Sess} (hi : i < l.length) (hR : (l.drop i).find? (fun s => s.client == c) = r) (h : ¬ (at' l i).client = c) : (l.drop (i + 1)).find? (fun s => s.client == c) = r := by
  rw [drop_at hi] at hR
  rw [← hR, List.find?_cons_of_neg (by simpa using h)]
theorem sessOf_hit {l : List Sess} {c : Int} {i : Nat} {r : Option Sess} (hi : i < l.length) (hR : (l.drop i).find? (fun s => s.client == c) = r) (h : (at' l i).client = c) : r = some (at' l i) := by
  rw [drop_at hi] at hR
  rw [← hR, List.find?_cons_of_pos (by simpa using h)]
theorem sessOf_end {l : List Sess} {c : Int} {i : Nat} {r : Option Sess} (hi : l.length ≤ i) (hR : (l.drop i).find? (fun s => s.client == c) = r) : r = none := by
  rw [List.drop_of_length_le hi] at hR; rw [← hR]; rfl
def sessV (m : Mach) (c : Int) : Sess := (sessOf m c).getD noSess
theorem sessV_some {m : Mach} {c : Int} {s : Sess} (h : sessOf m c = some s) : sessV m c = s := by unfold sessV; rw [h]; rfl
theorem sessV_none {m : Mach} {c : Int} (h : sessOf m c = none) : sessV m c = noSess := by unfold sessV; rw [h]; rfl
end
end Go.Abs

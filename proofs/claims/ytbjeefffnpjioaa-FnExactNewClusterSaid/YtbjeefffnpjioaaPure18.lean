/- More plain facts. No condition. -/
import Derived.Test.YtbjeefffnpjioaaPure17
set_option linter.unusedVariables false
set_option linter.unusedSimpArgs false
namespace Go.Abs
noncomputable section
/-! the next configuration -/
/-! the repair -/
theorem markE_take (l : List LEnt) (k : Int) : (markE l k).take l.length = markE l k := List.take_of_length_le (by rw [markE_len]; exact Nat.le_refl _)
theorem heldE_m (l : List LEnt) : heldE (markE l 1) 1 = 1 + 7 * l.length := heldE_mark l 1
theorem heldC_m {epoch primary : Int} {reps wits : List Int} : heldC ⟨epoch, primary, markI reps 1, markI wits (1 + (reps.length : Int))⟩ 1 = 1 + (reps.length : Int) + wits.length := heldC_mark (c := ⟨epoch, primary, reps, wits⟩) (by decide)
structure CostI (c : Clu) (l : List LEnt) (rs : List Int) (R : Int) (i : Nat) (n : Int) : Prop where
  run : costGo c l (rs.drop i) n = R
  lo : 0 ≤ n
  hi : n ≤ 1048576 * i
theorem CostI.next {c : Clu} {l : List LEnt} {rs : List Int} {R : Int} {i : Nat} {n : Int} (h : CostI c l rs R i n) (hi : i < rs.length) (hl : l.length ≤ 1048576) : CostI c l rs R (i + 1) (n + (l.length - (hasOf (at' c.srvs (at' rs i).toNat) (at' rs i) l : Nat))) := by
  have q := hasOf_len (at' c.srvs (at' rs i).toNat) (at' rs i) l
  have q1 := h.lo; have q2 := h.hi
  exact ⟨costGo_s hi h.run, by omega, by push_cast; omega⟩
/-! a new cluster -/
def baseClu (l : List Plc) : Clu := ⟨0, [], [0, 0, 0, 0, 0], ⟨[], 0⟩, 3, noLse, l⟩
def noClu : Clu := ⟨0, [], [], ⟨[], 0⟩, 0, noLse, []⟩
def newClu (l : List Plc) : Clu := if arePlaces l then withS (baseClu l) (List.replicate 5 (newSrv 1)) else noClu
theorem newClu_y {l : List Plc} (h : arePlaces l = true) {i : Nat} (h1 : 5 ≤ i) (h2 : i ≤ 5) : newClu l = withS (baseClu l) (List.replicate i (newSrv 1)) := by
  obtain rfl : i = 5 := by omega
  unfold newClu; rw [if_pos h]
theorem newClu_n {l : List Plc} (h : arePlaces l = false) : newClu l = noClu := by unfold newClu; rw [if_neg (by simp [h])]
theorem newSrv_B : SrvB (newSrv 1) := ⟨ConfB.no, Nat.zero_le _, Nat.zero_le _⟩
theorem newClu_B {l : List Plc} (h : l.length ≤ 1048576) : CluB (newClu l) := by
  unfold newClu
  split
  · refine ⟨fun s hs => ?_, by simp [withS], by simp [withS, baseClu], ⟨by simp [withS, baseClu], fun c hc => by simp [withS, baseClu] at hc⟩, h⟩
    simp only [withS] at hs
    rw [List.eq_of_mem_replicate hs]; exact newSrv_B
  · exact ⟨fun s hs => by simp [noClu] at hs, by simp [noClu], by simp [noClu], ⟨by simp [noClu], fun c hc => by simp [noClu] at hc⟩, by simp [noClu]⟩
theorem rep_succ {α : Type} (i : Nat) (x : α) : List.replicate i x ++ [x] = List.replicate (i + 1) x := List.replicate_succ'.symm
/-! the switch -/
end
end Go.Abs

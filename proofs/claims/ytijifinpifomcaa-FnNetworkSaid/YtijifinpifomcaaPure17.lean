/- More plain facts. No condition. -/
import Derived.Test.YtijifinpifomcaaPure16
set_option linter.unusedVariables false
set_option linter.unusedSimpArgs false
set_option linter.unusedVariables false
set_option linter.unusedSimpArgs false
namespace Go.Abs
noncomputable section
def hasOf (s : Srv) (id : Int) (l : List LEnt) : Nat := if isRep s id then max (comPre l s.learned) (comPre l s.log) else comPre l s.learned
theorem hasOf_len (s : Srv) (id : Int) (l : List LEnt) : hasOf s id l ≤ l.length := by
  have h1 := (comPre_len l s.learned).1
  have h2 := (comPre_len l s.log).1
  unfold hasOf; split <;> omega
theorem costGo_s {c : Clu} {l : List LEnt} {rs : List Int} {i : Nat} {n R : Int} (hi : i < rs.length) (hR : costGo c l (rs.drop i) n = R) : costGo c l (rs.drop (i + 1)) (n + (l.length - (hasOf (at' c.srvs (at' rs i).toNat) (at' rs i) l : Nat))) = R := by
  rw [drop_at hi] at hR
  exact hR
theorem hasRoom_of {l : List Plc} {id : Int} (h : hasRoom l id = true) : arePlaces l = true ∧ 0 ≤ id ∧ id ≤ 4 ∧ (at' l id.toNat).load < (at' l id.toNat).cap ∧ l.length = 5 := by
  simp only [hasRoom, Bool.and_eq_true, inR_iff, decide_eq_true_eq] at h
  exact ⟨h.1.1, h.1.2.1, h.1.2.2, h.2, arePlaces_len h.1.1⟩
theorem spareGo_in {l : List Plc} {ms av racks : List Int} : ∀ (ids : List Int) (b : Int), (b < 0 ∨ (0 ≤ b ∧ b ≤ 4 ∧ ms.contains b = false ∧ arePlaces l = true)) → (-1 ≤ b) → -1 ≤ spareGo l ms av racks ids b ∧ (spareGo l ms av racks ids b < 0 ∨ (0 ≤ spareGo l ms av racks ids b ∧ spareGo l ms av racks ids b ≤ 4 ∧ ms.contains (spareGo l ms av racks ids b) = false ∧ arePlaces l = true))
  | [], b, h, h2 => ⟨h2, h⟩
  | id :: ids, b, h, h2 => by
    simp only [spareGo]
    split
    · rename_i h3
      simp only [Bool.and_eq_true, Bool.not_eq_true'] at h3
      have q := hasRoom_of h3.1.1.1
      exact spareGo_in ids id (.inr ⟨q.2.1, q.2.2.1, h3.1.1.2, q.1⟩) (by omega)
    · exact spareGo_in ids b h h2
theorem spare_in (l : List Plc) (ms av : List Int) : -1 ≤ spare l ms av ∧ (spare l ms av < 0 ∨ (0 ≤ spare l ms av ∧ spare l ms av ≤ 4 ∧ ms.contains (spare l ms av) = false ∧ arePlaces l = true)) := by
  unfold spare; split
  · exact spareGo_in _ _ (.inl (by decide)) (by decide)
  · exact ⟨by decide, .inl (by decide)⟩
theorem putI_new {l : List Int} {x : Int} (h : x ∉ l) : (putI l x).length = l.length + 1 := by
  induction l with
  | nil => simp [putI]
  | cons y l ih =>
    simp only [List.mem_cons, not_or] at h
    simp only [putI]
    split
    · simp [ih h.2]
    · rw [if_neg (fun e => h.1 e.symm)]; simp
structure PlanI (l : List Plc) (av : List Int) (want : Int) (R : List Int) (n : Nat) (out : List Int) : Prop where
  srv : areServers out = true
  fuel : want - out.length ≤ n
  run : planGo l av want n out = R
theorem PlanI.len {l : List Plc} {av : List Int} {want : Int} {R : List Int} {n : Nat} {out : List Int} (h : PlanI l av want R n out) : out.length ≤ 5 := areServers_len h.srv
theorem put_srv {out : List Int} {x : Int} (h : areServers out = true) (h0 : 0 ≤ x) (h1 : x ≤ 4) : areServers (putI out x) = true := by
  have q := areServers_of h
  refine areServers_iff.2 ⟨asc_putI q.1, fun z hz => ?_⟩
  rcases mem_putI.1 hz with hz | rfl
  · exact q.2 z hz
  · exact ⟨h0, h1⟩
theorem PlanI.next {l : List Plc} {av : List Int} {want : Int} {R : List Int} {n : Nat} {out : List Int} (h : PlanI l av want R n out) (hw : (out.length : Int) < want) (hs : 0 ≤ spare l out av) : PlanI l av want R (n - 1) (putI out (spare l out av)) ∧ (putI out (spare l out av)).length = out.length + 1 := by
  have q := (spare_in l out av).2
  have q2 : 0 ≤ spare l out av ∧ spare l out av ≤ 4 ∧ out.contains (spare l out av) = false := by
    rcases q with q | q
    · omega
    · exact ⟨q.1, q.2.1, q.2.2.1⟩
  have e := putI_new (l := out) (x := spare l out av) (by simpa using q2.2.2)
  have f := h.fuel
  refine ⟨⟨put_srv h.srv q2.1 q2.2.1, by rw [e]; push_cast; omega, ?_⟩, e⟩
  have hR := h.run
  obtain ⟨m, rfl⟩ : ∃ m, n = m + 1 := ⟨n - 1, by omega⟩
  simp only [planGo] at hR
  rw [if_pos hw, if_neg (by omega)] at hR
  exact hR
theorem PlanI.no {l : List Plc} {av : List Int} {want : Int} {R : List Int} {n : Nat} {out : List Int} (h : PlanI l av want R n out) (hw : (out.length : Int) < want) (hs : spare l out av < 0) : out = R := by
  have f := h.fuel
  have hR := h.run
  obtain ⟨m, rfl⟩ : ∃ m, n = m + 1 := ⟨n - 1, by omega⟩
  simp only [planGo] at hR
  rw [if_pos hw, if_pos hs] at hR
  exact hR
theorem PlanI.done {l : List Plc} {av : List Int} {want : Int} {R : List Int} {n : Nat} {out : List Int} (h : PlanI l av want R n out) (hw : want ≤ (out.length : Int)) : out = R := by
  have hR := h.run
  cases n with
  | zero => exact hR
  | succ n => simp only [planGo] at hR; rw [if_neg (by omega)] at hR; exact hR
end
end Go.Abs

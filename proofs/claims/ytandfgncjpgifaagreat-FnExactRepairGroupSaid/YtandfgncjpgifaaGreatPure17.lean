/- More plain facts. No condition. -/
import Derived.Test.YtandfgncjpgifaaGreatPure16
set_option linter.unusedVariables false
set_option linter.unusedSimpArgs false
namespace Go.Abs
noncomputable section
def hasOf (s : Srv) (id : Int) (l : List LEnt) : Nat := if isRep s id then max (comPre l s.learned) (comPre l s.log) else comPre l s.learned
theorem hasOf_len (s : Srv) (id : Int) (l : List LEnt) : hasOf s id l ≤ l.length := by
  have h1 := (comPre_len l s.learned).1
  have h2 := (comPre_len l s.log).1
  unfold hasOf; split <;> omega
theorem costGo_s {c : Clu} {l : List LEnt} {rs : List Int} {i : Nat} {n R : Int} (hi : i < rs.length) (hR : costGo c l (rs.drop i) n = R) : costGo c l (rs.drop (i + 1)) (n + (l.length - (hasOf (at' c.srvs (at' rs i).toNat) (at' rs i) l : Nat))) = R := by
  rw [drop_at hi] at hR
  exact hR
theorem costGo_e {c : Clu} {l : List LEnt} {rs : List Int} {i : Nat} {n R : Int} (hi : rs.length ≤ i) (hR : costGo c l (rs.drop i) n = R) : n = R := by
  rw [List.drop_of_length_le hi] at hR
  exact hR
theorem cost_y {c : Clu} {x : Conf} (h1 : validConf x = true) (h2 : (srcLog c x.primary).isSome = true) : cost c x = costGo c ((srcLog c x.primary).getD []) x.reps 0 := by
  unfold cost
  rw [if_pos h1]
  cases e : srcLog c x.primary with
  | none => rw [e] at h2; simp at h2
  | some l => rfl
theorem racks_y {l : List Plc} {ms : List Int} (h1 : arePlaces l = true) (h2 : areServers ms = true) : racksOf l ms = puts (ms.map fun id => (at' l id.toNat).rack) := by unfold racksOf; rw [if_pos (by simp [h1, h2])]
theorem racks_n {l : List Plc} {ms : List Int} (h : arePlaces l = false ∨ areServers ms = false) : racksOf l ms = [] := by
  unfold racksOf; rw [if_neg]
  simp only [Bool.and_eq_true]
  rintro ⟨a, b⟩
  rcases h with h | h
  · rw [a] at h; simp at h
  · rw [b] at h; simp at h
theorem racks_len (l : List Plc) (ms : List Int) : (racksOf l ms).length ≤ ms.length := by
  have key : ∀ (xs s : List Int), (xs.foldl putI s).length ≤ s.length + xs.length := by
    intro xs
    induction xs with
    | nil => intro s; simp
    | cons x xs ih =>
      intro s
      have h1 := ih (putI s x)
      have h2 : (putI s x).length ≤ s.length + 1 := by
        clear ih h1
        induction s with
        | nil => simp [putI]
        | cons y s ih2 =>
          simp only [putI]
          split
          · simpa using ih2
          · split <;> simp
      simp only [List.foldl_cons, List.length_cons]; omega
  unfold racksOf; split
  · have := key (ms.map fun id => (at' l id.toNat).rack) []
    simpa [puts] using this
  · simp
theorem srv_at {ms : List Int} (h : areServers ms = true) {i : Nat} (hi : i < ms.length) : 0 ≤ at' ms i ∧ at' ms i ≤ 4 := (areServers_of h).2 _ (E.at_mem hi)
theorem five_drop {i : Nat} (h : i < 5) : ([0, 1, 2, 3, 4] : List Int).drop i = (i : Int) :: ([0, 1, 2, 3, 4] : List Int).drop (i + 1) := by
  match i, h with
  | 0, _ => rfl
  | 1, _ => rfl
  | 2, _ => rfl
  | 3, _ => rfl
  | 4, _ => rfl
def takes (l : List Plc) (ms av racks : List Int) (id b : Int) : Bool := hasRoom l id && !ms.contains id && !av.contains id && (decide (b < 0) || better l racks id b)
theorem spare_s {l : List Plc} {ms av racks : List Int} {i : Nat} {b R : Int} (hi : i < 5) (hR : spareGo l ms av racks (([0, 1, 2, 3, 4] : List Int).drop i) b = R) (h : takes l ms av racks i b = true) : spareGo l ms av racks (([0, 1, 2, 3, 4] : List Int).drop (i + 1)) i = R := by
  rw [five_drop hi] at hR
  simp only [spareGo] at hR
  unfold takes at h
  rw [if_pos h] at hR; exact hR
theorem spare_n {l : List Plc} {ms av racks : List Int} {i : Nat} {b R : Int} (hi : i < 5) (hR : spareGo l ms av racks (([0, 1, 2, 3, 4] : List Int).drop i) b = R) (h : takes l ms av racks i b = false) : spareGo l ms av racks (([0, 1, 2, 3, 4] : List Int).drop (i + 1)) b = R := by
  rw [five_drop hi] at hR
  simp only [spareGo] at hR
  unfold takes at h
  rw [if_neg (by rw [h]; simp)] at hR; exact hR
theorem spare_e {l : List Plc} {ms av racks : List Int} {i : Nat} {b R : Int} (hi : 5 ≤ i) (hR : spareGo l ms av racks (([0, 1, 2, 3, 4] : List Int).drop i) b = R) : b = R := by
  rw [List.drop_of_length_le (by simpa using hi)] at hR; exact hR
theorem hasRoom_of {l : List Plc} {id : Int} (h : hasRoom l id = true) : arePlaces l = true ∧ 0 ≤ id ∧ id ≤ 4 ∧ (at' l id.toNat).load < (at' l id.toNat).cap ∧ l.length = 5 := by
  simp only [hasRoom, Bool.and_eq_true, inR_iff, decide_eq_true_eq] at h
  exact ⟨h.1.1, h.1.2.1, h.1.2.2, h.2, arePlaces_len h.1.1⟩
theorem spareGo_in {l : List Plc} {ms av racks : List Int} : ∀ (ids : List Int) (b : Int), (b < 0 ∨ (0 ≤ b ∧ b ≤ 4 ∧ ms.contains b = false ∧ arePlaces l = true)) → (-1 ≤ b) → -1 ≤ spareGo l ms av racks ids b ∧ (spareGo l ms av racks ids b < 0 ∨ (0 ≤ spareGo l ms av racks ids b ∧ spareGo l ms av racks ids b ≤ 4 ∧ ms.contains (spareGo l ms av racks ids b) = false ∧ arePlaces l = true))
  | [], b, h, h2 => ⟨h2, h⟩
  | id :: ids, b, h, h2 => by
    simp only [spareGo]
    split
    · rename_i h3
      simp only [Bool.and_eq_true, Bool.not_eq_true'] at h3
      have q := hasRoom_of h3.1.1.1
      exact spareGo_in ids id (.inr ⟨q.2.1, q.2.2.1, h3.1.1.2, q.1⟩) (by omega)
    · exact spareGo_in ids b h h2
theorem spare_y {l : List Plc} {ms av : List Int} (h : areServers ms = true) : spare l ms av = spareGo l ms av (racksOf l ms) [0, 1, 2, 3, 4] (-1) := by unfold spare; rw [if_pos h]
theorem spare_no {l : List Plc} {ms av : List Int} (h : areServers ms = false) : spare l ms av = -1 := by unfold spare; rw [if_neg (by simp [h])]
theorem spare_in (l : List Plc) (ms av : List Int) : -1 ≤ spare l ms av ∧ (spare l ms av < 0 ∨ (0 ≤ spare l ms av ∧ spare l ms av ≤ 4 ∧ ms.contains (spare l ms av) = false ∧ arePlaces l = true)) := by
  unfold spare; split
  · exact spareGo_in _ _ (.inl (by decide)) (by decide)
  · exact ⟨by decide, .inl (by decide)⟩
theorem putI_new {l : List Int} {x : Int} (h : x ∉ l) : (putI l x).length = l.length + 1 := by
  induction l with
  | nil => simp [putI]
  | cons y l ih =>
    simp only [List.mem_cons, not_or] at h
    simp only [putI]
    split
    · simp [ih h.2]
    · rw [if_neg (fun e => h.1 e.symm)]; simp
theorem unite_one {l : List Int} (h : Asc l) (x : Int) : unite l [x] = putI l x := by
  unfold unite
  have e : l.foldl putI [] = l := puts_asc h
  rw [e]; rfl
structure PlanI (l : List Plc) (av : List Int) (want : Int) (R : List Int) (n : Nat) (out : List Int) : Prop where
  srv : areServers out = true
  fuel : want - out.length ≤ n
  run : planGo l av want n out = R
theorem PlanI.len {l : List Plc} {av : List Int} {want : Int} {R : List Int} {n : Nat} {out : List Int} (h : PlanI l av want R n out) : out.length ≤ 5 := areServers_len h.srv
theorem put_srv {out : List Int} {x : Int} (h : areServers out = true) (h0 : 0 ≤ x) (h1 : x ≤ 4) : areServers (putI out x) = true := by
  have q := areServers_of h
  refine areServers_iff.2 ⟨asc_putI q.1, fun z hz => ?_⟩
  rcases mem_putI.1 hz with hz | rfl
  · exact q.2 z hz
  · exact ⟨h0, h1⟩
theorem PlanI.next {l : List Plc} {av : List Int} {want : Int} {R : List Int} {n : Nat} {out : List Int} (h : PlanI l av want R n out) (hw : (out.length : Int) < want) (hs : 0 ≤ spare l out av) : PlanI l av want R (n - 1) (putI out (spare l out av)) ∧ (putI out (spare l out av)).length = out.length + 1 := by
  have q := (spare_in l out av).2
  have q2 : 0 ≤ spare l out av ∧ spare l out av ≤ 4 ∧ out.contains (spare l out av) = false := by
    rcases q with q | q
    · omega
    · exact ⟨q.1, q.2.1, q.2.2.1⟩
  have e := putI_new (l := out) (x := spare l out av) (by simpa using q2.2.2)
  have f := h.fuel
  refine ⟨⟨put_srv h.srv q2.1 q2.2.1, by rw [e]; push_cast; omega, ?_⟩, e⟩
  have hR := h.run
  obtain ⟨m, rfl⟩ : ∃ m, n = m + 1 := ⟨n - 1, by omega⟩
  simp only [planGo] at hR
  rw [if_pos hw, if_neg (by omega)] at hR
  exact hR
theorem PlanI.no {l : List Plc} {av : List Int} {want : Int} {R : List Int} {n : Nat} {out : List Int} (h : PlanI l av want R n out) (hw : (out.length : Int) < want) (hs : spare l out av < 0) : out = R := by
  have f := h.fuel
  have hR := h.run
  obtain ⟨m, rfl⟩ : ∃ m, n = m + 1 := ⟨n - 1, by omega⟩
  simp only [planGo] at hR
  rw [if_pos hw, if_pos hs] at hR
  exact hR
theorem PlanI.done {l : List Plc} {av : List Int} {want : Int} {R : List Int} {n : Nat} {out : List Int} (h : PlanI l av want R n out) (hw : want ≤ (out.length : Int)) : out = R := by
  have hR := h.run
  cases n with
  | zero => exact hR
  | succ n => simp only [planGo] at hR; rw [if_neg (by omega)] at hR; exact hR
theorem common_srv {a b : List Int} (h : areServers a = true) : areServers (common a b) = true := by
  refine areServers_iff.2 ⟨asc_puts _, fun z hz => ?_⟩
  have := mem_puts.1 hz
  exact (areServers_of h).2 z (List.mem_filter.1 this).1
theorem plan_y {l : List Plc} {ms al : List Int} {want : Int} (h1 : arePlaces l = true) (h2 : areServers ms = true) (h3 : areServers al = true) (h4 : inR want 0 5 = true) : plan l ms al want = planGo l (without [0, 1, 2, 3, 4] al) want 6 (common ms al) := by
  unfold plan; rw [if_pos (by simp [h1, h2, h3, h4])]
theorem plan_n {l : List Plc} {ms al : List Int} {want : Int} (h : arePlaces l = false ∨ areServers ms = false ∨ areServers al = false ∨ inR want 0 5 = false) : plan l ms al want = [] := by
  unfold plan; rw [if_neg]
  simp only [Bool.and_eq_true]
  rintro ⟨⟨⟨a, b⟩, d⟩, e⟩
  rcases h with h | h | h | h
  · rw [a] at h; simp at h
  · rw [b] at h; simp at h
  · rw [d] at h; simp at h
  · rw [e] at h; simp at h
theorem PlanI.start {l : List Plc} {ms al : List Int} {want : Int} (h1 : arePlaces l = true) (h2 : areServers ms = true) (h3 : areServers al = true) (h4 : inR want 0 5 = true) : PlanI l (without [0, 1, 2, 3, 4] al) want (plan l ms al want) 6 (common ms al) := by
  have := inR_of h4
  exact ⟨common_srv h2, by omega, (plan_y h1 h2 h3 h4).symm⟩
theorem planGo_srv {l : List Plc} {av : List Int} {want : Int} : ∀ (n : Nat) (out : List Int), areServers out = true → areServers (planGo l av want n out) = true
  | 0, out, h => h
  | n + 1, out, h => by
    simp only [planGo]
    split
    · split
      · exact h
      · have q := spare_in l out av
        exact planGo_srv n _ (put_srv h (by omega) (by rcases q.2 with q | q; omega; exact q.2.1))
    · exact h
theorem plan_srv (l : List Plc) (ms al : List Int) (want : Int) : areServers (plan l ms al want) = true := by
  unfold plan
  split
  · rename_i h
    simp only [Bool.and_eq_true] at h
    exact planGo_srv _ _ (common_srv h.1.1.2)
  · rfl
theorem plan_len (l : List Plc) (ms al : List Int) (want : Int) : (plan l ms al want).length ≤ 5 := areServers_len (plan_srv l ms al want)
theorem alive_in {c : Clu} (h : validClu c = true) {z : Int} : (aliveS c).contains z = (inR z 0 4 && usable c z) := by
  have q := validClu_of h
  rw [Bool.eq_iff_iff]
  simp only [List.contains_iff_mem, aliveS, whereGo_mem, Nat.zero_add, Bool.and_eq_true, inR_iff]
  constructor
  · rintro ⟨j, h1, h2, rfl⟩
    exact ⟨by omega, h2⟩
  · rintro ⟨h1, h2⟩
    refine ⟨z.toNat, by omega, ?_, by omega⟩
    rw [show ((z.toNat : Nat) : Int) = z by omega]; exact h2
theorem alive_srv {c : Clu} (h : validClu c = true) : areServers (aliveS c) = true := by
  refine areServers_iff.2 ⟨(whereGo_asc _ _).1, fun z hz => ?_⟩
  have := alive_in h (z := z)
  rw [List.contains_iff_mem.2 hz] at this
  have := this.symm
  simp only [Bool.and_eq_true, inR_iff] at this
  exact this.1
theorem alive_where {c : Clu} (h : validClu c = true) : srvsWhere c (fun i _ => usable c i) = aliveS c := by unfold srvsWhere; rw [if_pos h]; rfl
end
end Go.Abs

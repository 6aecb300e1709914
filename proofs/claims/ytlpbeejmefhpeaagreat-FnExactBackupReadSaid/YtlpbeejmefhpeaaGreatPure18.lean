/- More plain facts. No condition. -/
import Derived.Test.YtlpbeejmefhpeaaGreatPure17
set_option linter.unusedVariables false
set_option linter.unusedSimpArgs false
namespace Go.Abs
noncomputable section
structure NextB (c : Clu) (want wits : Int) : Prop where
  v : validClu c = true
  w : inR want 1 3 = true
  x : inR wits 0 1 = true
  l : (c.mast.confs.length : Int) < 20
structure RepB (c : Clu) (term : Int) : Prop where
  v : validClu c = true
  t : inR term 1 50 = true
structure RepC (c : Clu) (w t : Int) : Prop extends RepB c t where
  s : isServing c = false
  n : (nextC c w 0).2 = true
theorem markE_take (l : List LEnt) (k : Int) : (markE l k).take l.length = markE l k := List.take_of_length_le (by rw [markE_len]; exact Nat.le_refl _)
theorem heldE_m (l : List LEnt) : heldE (markE l 1) 1 = 1 + 7 * l.length := heldE_mark l 1
theorem heldC_m {epoch primary : Int} {reps wits : List Int} : heldC ⟨epoch, primary, markI reps 1, markI wits (1 + (reps.length : Int))⟩ 1 = 1 + (reps.length : Int) + wits.length := heldC_mark (c := ⟨epoch, primary, reps, wits⟩) (by decide)
theorem srv_cv {c : Clu} {x : Int} (h : validClu c = true) (h0 : 0 ≤ x ∧ x ≤ 4) : (at' c.srvs x.toNat).conf = noConf ∨ validConf (at' c.srvs x.toNat).conf = true := by
  by_cases hn : (at' c.srvs x.toNat).conf = noConf
  · exact .inl hn
  · exact .inr (validSrv_conf (srv_of h h0.1 h0.2).1 hn).1
theorem members_c1 {c : Conf} {m : Int} (h : (membersOf c).contains m = true) : ¬ roleOf c m = 0 := by rw [members_has] at h; simpa using h
theorem members_c0 {c : Conf} {m : Int} (h : (membersOf c).contains m = false) : roleOf c m = 0 := by rw [members_has] at h; simpa using h
theorem pushTo_n {c : Clu} {id m : Int} (h : primAt c id = false ∨ roleOf (at' c.srvs id.toNat).conf m = 0 ∨ hears c id m = false) : pushTo c id m = (c, false) := by
  unfold pushTo; rw [if_neg]
  rintro ⟨a, b, d⟩
  rcases h with h | h | h
  · rw [a] at h; simp at h
  · exact b h
  · rw [d] at h; simp at h
theorem pushTo_w {c : Clu} {id m : Int} (h1 : primAt c id = true) (h2 : roleOf (at' c.srvs id.toNat).conf m = 3) (h3 : hears c id m = true) : pushTo c id m = (setSrv c m (setTail (srvAt c m) (cutTail (srvAt c id).log).1 (cutTail (srvAt c id).log).2), true) := by
  have h2' : roleOf (srvAt c id).conf m = 3 := h2
  unfold pushTo; rw [if_pos ⟨h1, by rw [h2']; decide, h3⟩, if_pos h2']
theorem pushTo_r {c : Clu} {id m : Int} (h1 : primAt c id = true) (h0 : ¬ roleOf (at' c.srvs id.toNat).conf m = 0) (h2 : ¬ roleOf (at' c.srvs id.toNat).conf m = 3) (h3 : hears c id m = true) : pushTo c id m = (setSrv c m (setLog (srvAt c m) (srvAt c id).log), true) := by
  have h2' : ¬ roleOf (srvAt c id).conf m = 3 := h2
  have h0' : ¬ roleOf (srvAt c id).conf m = 0 := h0
  unfold pushTo; rw [if_pos ⟨h1, h0', h3⟩, if_neg h2']
structure CostI (c : Clu) (l : List LEnt) (rs : List Int) (R : Int) (i : Nat) (n : Int) : Prop where
  run : costGo c l (rs.drop i) n = R
  lo : 0 ≤ n
  hi : n ≤ 1048576 * i
theorem CostI.le {c : Clu} {l : List LEnt} {rs : List Int} {R : Int} {i : Nat} {n : Int} (h : CostI c l rs R i n) (hi : i ≤ rs.length) (hr : rs.length ≤ 1048576) : 0 ≤ n ∧ n ≤ 1099511627776 := by
  have := h.lo; have := h.hi; omega
theorem CostI.next {c : Clu} {l : List LEnt} {rs : List Int} {R : Int} {i : Nat} {n : Int} (h : CostI c l rs R i n) (hi : i < rs.length) (hl : l.length ≤ 1048576) : CostI c l rs R (i + 1) (n + (l.length - (hasOf (at' c.srvs (at' rs i).toNat) (at' rs i) l : Nat))) := by
  have q := hasOf_len (at' c.srvs (at' rs i).toNat) (at' rs i) l
  have q1 := h.lo; have q2 := h.hi
  exact ⟨costGo_s hi h.run, by omega, by push_cast; omega⟩
theorem CostI.fin {c : Clu} {l : List LEnt} {rs : List Int} {R : Int} {i : Nat} {n : Int} (h : CostI c l rs R i n) (hi : rs.length ≤ i) : n = R := costGo_e hi h.run
theorem CostI.start {c : Clu} {x : Conf} (h1 : validConf x = true) (h2 : (srcLog c x.primary).isSome = true) : CostI c ((srcLog c x.primary).getD []) x.reps (cost c x) 0 0 := ⟨(cost_y h1 h2).symm, by decide, by decide⟩
end
end Go.Abs

/- More plain facts. No condition. -/
import Derived.Test.YtandfgncjpgifaaGreatPure17
set_option linter.unusedVariables false
set_option linter.unusedSimpArgs false
namespace Go.Abs
noncomputable section
theorem sealM_usable (c : Clu) (id e i : Int) : usable (sealM c id e) i = usable c i := by
  unfold usable srvAt; rw [sealM_up, sealM_sides]
/-! the next configuration -/
theorem la_len (m : MLog) : (lastAct m).1.reps.length ≤ 5 ∧ (lastAct m).1.wits.length ≤ 5 := by
  by_cases h : (lastAct m).2 = true
  · exact conf_lens (lastAct_of h).2.2.2.1
  · have e : (lastAct m).1 = noConf := by
      unfold lastAct confAt at h ⊢
      split at h
      · simp at h
      · rename_i h2; rw [if_neg h2]
    rw [e]; simp [noConf]
def keepF (c : Clu) : Int → Bool := fun id => usable c id && ((srvAt c id).conf.epoch == (lastAct c.mast).1.epoch)
def keptS (c : Clu) : List Int := (lastAct c.mast).1.reps.filter (keepF c)
structure NextB (c : Clu) (want wits : Int) : Prop where
  v : validClu c = true
  w : inR want 1 3 = true
  x : inR wits 0 1 = true
  l : (c.mast.confs.length : Int) < 20
abbrev nextR (c : Clu) (want : Int) : List Int := plan c.plcs (keptS c) (aliveS c) want
theorem NextB.eq {c : Clu} {want wits : Int} (h : NextB c want wits) : nextC c want wits =
    if (nextR c want).length = 0 then (noConf, false)
    else (⟨c.mast.confs.length + 1, if 0 < (lastAct c.mast).1.epoch ∧ (nextR c want).contains (lastAct c.mast).1.primary = true then (lastAct c.mast).1.primary else at' (nextR c want) 0, nextR c want, if wits = 1 ∧ 0 ≤ spare c.plcs (nextR c want) (without [0, 1, 2, 3, 4] (aliveS c)) then [spare c.plcs (nextR c want) (without [0, 1, 2, 3, 4] (aliveS c))] else []⟩, true) := by
  have e : (validClu c && inR want 1 3 && inR wits 0 1 && decide ((c.mast.confs.length : Int) < 20)) = true := by simp [h.v, h.w, h.x, h.l]
  unfold nextC
  rw [if_pos e]
  rfl
/-! the repair -/
structure RepB (c : Clu) (term : Int) : Prop where
  v : validClu c = true
  t : inR term 1 50 = true
theorem RepB.ne {c : Clu} {term : Int} (h : RepB c term) : ¬ (validClu c = false ∨ inR term 1 50 = false) := by
  rintro (a | a)
  · rw [h.v] at a; simp at a
  · rw [h.t] at a; simp at a
structure RepC (c : Clu) (w t : Int) : Prop extends RepB c t where
  s : isServing c = false
  n : (nextC c w 0).2 = true
theorem markE_take (l : List LEnt) (k : Int) : (markE l k).take l.length = markE l k := List.take_of_length_le (by rw [markE_len]; exact Nat.le_refl _)
theorem heldE_m (l : List LEnt) : heldE (markE l 1) 1 = 1 + 7 * l.length := heldE_mark l 1
theorem heldC_m {epoch primary : Int} {reps wits : List Int} : heldC ⟨epoch, primary, markI reps 1, markI wits (1 + (reps.length : Int))⟩ 1 = 1 + (reps.length : Int) + wits.length := heldC_mark (c := ⟨epoch, primary, reps, wits⟩) (by decide)
theorem srcLog_w {c : Clu} {id : Int} (h1 : hasSrv c id = true) (h2 : ¬ c.mast.act = 0) (h3 : bestSource c id < 0) : srcLog c id = witLog c id := by
  unfold srcLog; rw [if_pos h1, if_neg h2, if_neg (by omega)]
theorem srv_cv {c : Clu} {x : Int} (h : validClu c = true) (h0 : 0 ≤ x ∧ x ≤ 4) : (at' c.srvs x.toNat).conf = noConf ∨ validConf (at' c.srvs x.toNat).conf = true := by
  by_cases hn : (at' c.srvs x.toNat).conf = noConf
  · exact .inl hn
  · exact .inr (validSrv_conf (srv_of h h0.1 h0.2).1 hn).1
theorem members_c1 {c : Conf} {m : Int} (h : (membersOf c).contains m = true) : ¬ roleOf c m = 0 := by rw [members_has] at h; simpa using h
theorem members_c0 {c : Conf} {m : Int} (h : (membersOf c).contains m = false) : roleOf c m = 0 := by rw [members_has] at h; simpa using h
theorem pushTo_n {c : Clu} {id m : Int} (h : primAt c id = false ∨ roleOf (at' c.srvs id.toNat).conf m = 0 ∨ hears c id m = false) : pushTo c id m = (c, false) := by
  unfold pushTo; rw [if_neg]
  rintro ⟨a, b, d⟩
  rcases h with h | h | h
  · rw [a] at h; simp at h
  · exact b h
  · rw [d] at h; simp at h
theorem pushTo_w {c : Clu} {id m : Int} (h1 : primAt c id = true) (h2 : roleOf (at' c.srvs id.toNat).conf m = 3) (h3 : hears c id m = true) : pushTo c id m = (setSrv c m (setTail (srvAt c m) (cutTail (srvAt c id).log).1 (cutTail (srvAt c id).log).2), true) := by
  have h2' : roleOf (srvAt c id).conf m = 3 := h2
  unfold pushTo; rw [if_pos ⟨h1, by rw [h2']; decide, h3⟩, if_pos h2']
theorem pushTo_r {c : Clu} {id m : Int} (h1 : primAt c id = true) (h0 : ¬ roleOf (at' c.srvs id.toNat).conf m = 0) (h2 : ¬ roleOf (at' c.srvs id.toNat).conf m = 3) (h3 : hears c id m = true) : pushTo c id m = (setSrv c m (setLog (srvAt c m) (srvAt c id).log), true) := by
  have h2' : ¬ roleOf (srvAt c id).conf m = 3 := h2
  have h0' : ¬ roleOf (srvAt c id).conf m = 0 := h0
  unfold pushTo; rw [if_pos ⟨h1, h0', h3⟩, if_neg h2']
structure CostI (c : Clu) (l : List LEnt) (rs : List Int) (R : Int) (i : Nat) (n : Int) : Prop where
  run : costGo c l (rs.drop i) n = R
  lo : 0 ≤ n
  hi : n ≤ 1048576 * i
theorem CostI.le {c : Clu} {l : List LEnt} {rs : List Int} {R : Int} {i : Nat} {n : Int} (h : CostI c l rs R i n) (hi : i ≤ rs.length) (hr : rs.length ≤ 1048576) : 0 ≤ n ∧ n ≤ 1099511627776 := by
  have := h.lo; have := h.hi; omega
theorem CostI.next {c : Clu} {l : List LEnt} {rs : List Int} {R : Int} {i : Nat} {n : Int} (h : CostI c l rs R i n) (hi : i < rs.length) (hl : l.length ≤ 1048576) : CostI c l rs R (i + 1) (n + (l.length - (hasOf (at' c.srvs (at' rs i).toNat) (at' rs i) l : Nat))) := by
  have q := hasOf_len (at' c.srvs (at' rs i).toNat) (at' rs i) l
  have q1 := h.lo; have q2 := h.hi
  exact ⟨costGo_s hi h.run, by omega, by push_cast; omega⟩
theorem CostI.fin {c : Clu} {l : List LEnt} {rs : List Int} {R : Int} {i : Nat} {n : Int} (h : CostI c l rs R i n) (hi : rs.length ≤ i) : n = R := costGo_e hi h.run
theorem CostI.start {c : Clu} {x : Conf} (h1 : validConf x = true) (h2 : (srcLog c x.primary).isSome = true) : CostI c ((srcLog c x.primary).getD []) x.reps (cost c x) 0 0 := ⟨(cost_y h1 h2).symm, by decide, by decide⟩
/-! a new cluster -/
/-! the switch -/
theorem switchP_n {c : Clu} {to : Int} (h : ¬ maySwitch c to = 0) : switchP c to = (c, maySwitch c to) := by unfold switchP; rw [if_pos h]
theorem switchP_y {c : Clu} {to : Int} (h : maySwitch c to = 0) : switchP c to = activ (proposeN (setLease (commitP c (lastAct c.mast).1.primary).1 noLse) ⟨(lastAct c.mast).1.epoch + 1, to, (lastAct c.mast).1.reps, (lastAct c.mast).1.wits⟩).1 := by unfold switchP; rw [if_neg (by simp [h])]
theorem switchP_B {c : Clu} {to : Int} (h : CluB c) : CluB (switchP c to).1 := by
  unfold switchP
  split
  · exact h
  · exact activ_B (propN_B (setLease_B (commitP_B h)) ⟨h.m.la.r, h.m.la.w⟩)
end
end Go.Abs

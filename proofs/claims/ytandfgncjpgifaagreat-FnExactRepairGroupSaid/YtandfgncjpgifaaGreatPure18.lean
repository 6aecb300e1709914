/- More plain facts. No condition. -/
import Derived.Test.YtandfgncjpgifaaGreatPure17
set_option linter.unusedVariables false
set_option linter.unusedSimpArgs false
namespace Go.Abs
noncomputable section
theorem sealM_usable (c : Clu) (id e i : Int) : usable (sealM c id e) i = usable c i := by
  unfold usable srvAt; rw [sealM_up, sealM_sides]
theorem la_len (m : MLog) : (lastAct m).1.reps.length ≤ 5 ∧ (lastAct m).1.wits.length ≤ 5 := by
  by_cases h : (lastAct m).2 = true
  · exact conf_lens (lastAct_of h).2.2.2.1
  · have e : (lastAct m).1 = noConf := by
      unfold lastAct confAt at h ⊢
      split at h
      · simp at h
      · rename_i h2; rw [if_neg h2]
    rw [e]; simp [noConf]
theorem la_none (m : MLog) : ((lastAct m).1 = noConf ↔ ¬ 0 < (lastAct m).1.epoch) ∧ ((lastAct m).2 = true ↔ 0 < (lastAct m).1.epoch) := by
  by_cases h : (lastAct m).2 = true
  · have q := lastAct_of h
    have q2 := validConf_of q.2.2.2.1
    refine ⟨⟨fun e => ?_, fun e => by omega⟩, ⟨fun _ => by omega, fun _ => h⟩⟩
    rw [e] at q2; simp [noConf] at q2
  · have e : (lastAct m).1 = noConf := by
      unfold lastAct confAt at h ⊢
      split at h
      · simp at h
      · rename_i h2; rw [if_neg h2]
    rw [e]; simp [noConf, h]
def keepF (c : Clu) : Int → Bool := fun id => usable c id && ((srvAt c id).conf.epoch == (lastAct c.mast).1.epoch)
def keptS (c : Clu) : List Int := (lastAct c.mast).1.reps.filter (keepF c)
theorem kept_len (c : Clu) : (keptS c).length ≤ 5 := Nat.le_trans (List.length_filter_le _ _) (la_len c.mast).1
structure NextB (c : Clu) (want wits : Int) : Prop where
  v : validClu c = true
  w : inR want 1 3 = true
  x : inR wits 0 1 = true
  l : (c.mast.confs.length : Int) < 20
abbrev nextR (c : Clu) (want : Int) : List Int := plan c.plcs (keptS c) (aliveS c) want
theorem NextB.eq {c : Clu} {want wits : Int} (h : NextB c want wits) : nextC c want wits =
    if (nextR c want).length = 0 then (noConf, false)
    else (⟨c.mast.confs.length + 1, if 0 < (lastAct c.mast).1.epoch ∧ (nextR c want).contains (lastAct c.mast).1.primary = true then (lastAct c.mast).1.primary else at' (nextR c want) 0, nextR c want, if wits = 1 ∧ 0 ≤ spare c.plcs (nextR c want) (without [0, 1, 2, 3, 4] (aliveS c)) then [spare c.plcs (nextR c want) (without [0, 1, 2, 3, 4] (aliveS c))] else []⟩, true) := by
  have e : (validClu c && inR want 1 3 && inR wits 0 1 && decide ((c.mast.confs.length : Int) < 20)) = true := by simp [h.v, h.w, h.x, h.l]
  unfold nextC
  rw [if_pos e]
  rfl
theorem nextC_n {c : Clu} {want wits : Int} (h : validClu c = false ∨ inR want 1 3 = false ∨ inR wits 0 1 = false ∨ ¬ (c.mast.confs.length : Int) < 20) : nextC c want wits = (noConf, false) := by
  unfold nextC
  rw [if_neg]
  simp only [Bool.and_eq_true, decide_eq_true_eq]
  rintro ⟨⟨⟨a, b⟩, d⟩, e⟩
  rcases h with h | h | h | h
  · rw [a] at h; simp at h
  · rw [b] at h; simp at h
  · rw [d] at h; simp at h
  · exact h e
theorem nextC_0 {c : Clu} {want wits : Int} (h : NextB c want wits) (h0 : ((nextR c want).length : Int) = 0) : nextC c want wits = (noConf, false) := by
  rw [h.eq, if_pos (by omega)]
theorem nextC_y {c : Clu} {want wits : Int} (h : NextB c want wits) (h0 : ¬ ((nextR c want).length : Int) = 0) : nextC c want wits = (⟨c.mast.confs.length + 1, if 0 < (lastAct c.mast).1.epoch ∧ (nextR c want).contains (lastAct c.mast).1.primary = true then (lastAct c.mast).1.primary else at' (nextR c want) 0, nextR c want, if wits = 1 ∧ 0 ≤ spare c.plcs (nextR c want) (without [0, 1, 2, 3, 4] (aliveS c)) then [spare c.plcs (nextR c want) (without [0, 1, 2, 3, 4] (aliveS c))] else []⟩, true) := by
  rw [h.eq, if_neg (by omega)]
theorem nextC_B (c : Clu) (want wits : Int) : ConfB (nextC c want wits).1 := by
  by_cases h : validClu c = true ∧ inR want 1 3 = true ∧ inR wits 0 1 = true ∧ (c.mast.confs.length : Int) < 20
  · have hb : NextB c want wits := ⟨h.1, h.2.1, h.2.2.1, h.2.2.2⟩
    rw [hb.eq]
    split
    · exact ConfB.no
    · refine ⟨Nat.le_trans (plan_len _ _ _ _) (by decide), ?_⟩
      dsimp only
      split <;> simp
  · rw [nextC_n]
    · exact ConfB.no
    · by_cases h1 : validClu c = true
      · by_cases h2 : inR want 1 3 = true
        · by_cases h3 : inR wits 0 1 = true
          · exact .inr (.inr (.inr (fun h4 => h ⟨h1, h2, h3, h4⟩)))
          · exact .inr (.inr (.inl (by simpa using h3)))
        · exact .inr (.inl (by simpa using h2))
      · exact .inl (by simpa using h1)
theorem propN_lse (c : Clu) (x : Conf) : (proposeN c x).1.lse = c.lse ∧ (proposeN c x).1.now = c.now := by
  unfold proposeN
  repeat' split
  all_goals exact ⟨rfl, rfl⟩
structure RepB (c : Clu) (term : Int) : Prop where
  v : validClu c = true
  t : inR term 1 50 = true
theorem RepB.ne {c : Clu} {term : Int} (h : RepB c term) : ¬ (validClu c = false ∨ inR term 1 50 = false) := by
  rintro (a | a)
  · rw [h.v] at a; simp at a
  · rw [h.t] at a; simp at a
theorem repairG_1a {c : Clu} {w t : Int} (h : validClu c = false) : repairG c w t = (c, 1) := by unfold repairG; rw [if_pos (.inl h)]
theorem repairG_1b {c : Clu} {w t : Int} (h : inR t 1 50 = false) : repairG c w t = (c, 1) := by unfold repairG; rw [if_pos (.inr h)]
theorem repairG_2 {c : Clu} {w t : Int} (h : RepB c t) (h1 : isServing c = true) : repairG c w t = (c, 0) := by unfold repairG; rw [if_neg h.ne, if_pos h1]
theorem repairG_3 {c : Clu} {w t : Int} (h : RepB c t) (h1 : isServing c = false) (h2 : (nextC c w 0).2 = false) : repairG c w t = (c, 10) := by
  unfold repairG; rw [if_neg h.ne, if_neg (by simp [h1]), if_pos h2]
structure RepC (c : Clu) (w t : Int) : Prop extends RepB c t where
  s : isServing c = false
  n : (nextC c w 0).2 = true
theorem repairG_4 {c : Clu} {w t : Int} (h : RepC c w t) (h3 : ¬ (proposeN c (nextC c w 0).1).2 = 0) : repairG c w t = (c, (proposeN c (nextC c w 0).1).2) := by
  unfold repairG; rw [if_neg h.ne, if_neg (by simp [h.s]), if_neg (by simp [h.n])]; dsimp only; rw [if_pos h3]
theorem repairG_5 {c : Clu} {w t n : Int} (h : RepC c w t) (h3 : (proposeN c (nextC c w 0).1).2 = 0) (hn : n = max 0 (safeTime c.lse - c.now)) (h4 : ¬ (passTime (proposeN c (nextC c w 0).1).1 n).2 = 0) : repairG c w t = (c, (passTime (proposeN c (nextC c w 0).1).1 n).2) := by
  have e := propN_lse c (nextC c w 0).1
  subst hn
  unfold repairG; rw [if_neg h.ne, if_neg (by simp [h.s]), if_neg (by simp [h.n])]; dsimp only; rw [if_neg (by simp [h3]), e.1, e.2, if_pos h4]
theorem repairG_6 {c : Clu} {w t n : Int} (h : RepC c w t) (h3 : (proposeN c (nextC c w 0).1).2 = 0) (hn : n = max 0 (safeTime c.lse - c.now)) (h4 : (passTime (proposeN c (nextC c w 0).1).1 n).2 = 0) (h5 : ¬ (activ (passTime (proposeN c (nextC c w 0).1).1 n).1).2 = 0) : repairG c w t = activ (passTime (proposeN c (nextC c w 0).1).1 n).1 := by
  have e := propN_lse c (nextC c w 0).1
  subst hn
  unfold repairG; rw [if_neg h.ne, if_neg (by simp [h.s]), if_neg (by simp [h.n])]; dsimp only; rw [if_neg (by simp [h3]), e.1, e.2, if_neg (by simp [h4]), if_pos h5]
theorem repairG_7 {c : Clu} {w t n : Int} (h : RepC c w t) (h3 : (proposeN c (nextC c w 0).1).2 = 0) (hn : n = max 0 (safeTime c.lse - c.now)) (h4 : (passTime (proposeN c (nextC c w 0).1).1 n).2 = 0) (h5 : (activ (passTime (proposeN c (nextC c w 0).1).1 n).1).2 = 0) : repairG c w t = renew (activ (passTime (proposeN c (nextC c w 0).1).1 n).1).1 (nextC c w 0).1.primary t := by
  have e := propN_lse c (nextC c w 0).1
  subst hn
  unfold repairG; rw [if_neg h.ne, if_neg (by simp [h.s]), if_neg (by simp [h.n])]; dsimp only; rw [if_neg (by simp [h3]), e.1, e.2, if_neg (by simp [h4]), if_neg (by simp [h5])]
theorem repairG_B {c : Clu} {w t : Int} (h : CluB c) : CluB (repairG c w t).1 := by
  unfold repairG
  dsimp only
  repeat' split
  all_goals first | exact h | exact activ_B (passTime_B (propN_B h (nextC_B _ _ _))) | exact renew_B (activ_B (passTime_B (propN_B h (nextC_B _ _ _))))
theorem markE_take (l : List LEnt) (k : Int) : (markE l k).take l.length = markE l k := List.take_of_length_le (by rw [markE_len]; exact Nat.le_refl _)
theorem heldE_m (l : List LEnt) : heldE (markE l 1) 1 = 1 + 7 * l.length := heldE_mark l 1
theorem heldC_m {epoch primary : Int} {reps wits : List Int} : heldC ⟨epoch, primary, markI reps 1, markI wits (1 + (reps.length : Int))⟩ 1 = 1 + (reps.length : Int) + wits.length := heldC_mark (c := ⟨epoch, primary, reps, wits⟩) (by decide)
theorem srcLog_w {c : Clu} {id : Int} (h1 : hasSrv c id = true) (h2 : ¬ c.mast.act = 0) (h3 : bestSource c id < 0) : srcLog c id = witLog c id := by
  unfold srcLog; rw [if_pos h1, if_neg h2, if_neg (by omega)]
theorem srv_cv {c : Clu} {x : Int} (h : validClu c = true) (h0 : 0 ≤ x ∧ x ≤ 4) : (at' c.srvs x.toNat).conf = noConf ∨ validConf (at' c.srvs x.toNat).conf = true := by
  by_cases hn : (at' c.srvs x.toNat).conf = noConf
  · exact .inl hn
  · exact .inr (validSrv_conf (srv_of h h0.1 h0.2).1 hn).1
theorem takes_y1 {l : List Plc} {ms av r : List Int} {i b : Int} (h1 : hasRoom l i = true) (h2 : ms.contains i = false) (h3 : av.contains i = false) (h4 : b < 0) : takes l ms av r i b = true := by
  unfold takes; rw [h1, h2, h3, decide_eq_true h4]; rfl
theorem takes_y2 {l : List Plc} {ms av r : List Int} {i b : Int} (h1 : hasRoom l i = true) (h2 : ms.contains i = false) (h3 : av.contains i = false) (h4 : better l r i b = true) : takes l ms av r i b = true := by
  unfold takes; rw [h1, h2, h3, h4]; simp
theorem takes_n1 {l : List Plc} {ms av r : List Int} {i b : Int} (h1 : hasRoom l i = false) : takes l ms av r i b = false := by
  unfold takes; rw [h1]; simp
theorem takes_n2 {l : List Plc} {ms av r : List Int} {i b : Int} (h1 : ms.contains i = true) : takes l ms av r i b = false := by
  unfold takes; rw [h1]; simp
theorem takes_n3 {l : List Plc} {ms av r : List Int} {i b : Int} (h1 : av.contains i = true) : takes l ms av r i b = false := by
  unfold takes; rw [h1]; simp
theorem takes_n4 {l : List Plc} {ms av r : List Int} {i b : Int} (h1 : 0 ≤ b) (h2 : better l r i b = false) : takes l ms av r i b = false := by
  unfold takes; rw [h2, decide_eq_false (by omega)]; simp
theorem better_i (l : List Plc) (r : List Int) (i : Nat) (b : Int) : better l r i b = if r.contains (at' l i).rack = r.contains (at' l b.toNat).rack then decide ((at' l i).load < (at' l b.toNat).load) else r.contains (at' l b.toNat).rack := by
  unfold better; dsimp only; rw [Int.toNat_natCast]
theorem better_t1 {l : List Plc} {r : List Int} {i : Nat} {b : Int} (hb : r.contains (at' l b.toNat).rack = true) (hi : r.contains (at' l i).rack = false) : better l r i b = true := by rw [better_i, hb, hi]; rfl
theorem better_t2a {l : List Plc} {r : List Int} {i : Nat} {b : Int} (hb : r.contains (at' l b.toNat).rack = true) (hi : true = r.contains (at' l i).rack) (hl : (at' l i).load < (at' l b.toNat).load) : better l r i b = true := by rw [better_i, hb, ← hi, if_pos rfl, decide_eq_true hl]
theorem better_t2b {l : List Plc} {r : List Int} {i : Nat} {b : Int} (hb : r.contains (at' l b.toNat).rack = false) (hi : false = r.contains (at' l i).rack) (hl : (at' l i).load < (at' l b.toNat).load) : better l r i b = true := by rw [better_i, hb, ← hi, if_pos rfl, decide_eq_true hl]
theorem better_f1 {l : List Plc} {r : List Int} {i : Nat} {b : Int} (hb : r.contains (at' l b.toNat).rack = false) (hi : ¬ false = r.contains (at' l i).rack) : better l r i b = false := by
  have hi2 : r.contains (at' l i).rack = true := by
    cases h : r.contains (at' l i).rack
    · exact absurd h.symm hi
    · rfl
  rw [better_i, hb, hi2]; rfl
theorem better_f2a {l : List Plc} {r : List Int} {i : Nat} {b : Int} (hb : r.contains (at' l b.toNat).rack = true) (hi : true = r.contains (at' l i).rack) (hl : (at' l b.toNat).load ≤ (at' l i).load) : better l r i b = false := by rw [better_i, hb, ← hi, if_pos rfl, decide_eq_false (by omega)]
theorem better_f2b {l : List Plc} {r : List Int} {i : Nat} {b : Int} (hb : r.contains (at' l b.toNat).rack = false) (hi : false = r.contains (at' l i).rack) (hl : (at' l b.toNat).load ≤ (at' l i).load) : better l r i b = false := by rw [better_i, hb, ← hi, if_pos rfl, decide_eq_false (by omega)]
structure CostI (c : Clu) (l : List LEnt) (rs : List Int) (R : Int) (i : Nat) (n : Int) : Prop where
  run : costGo c l (rs.drop i) n = R
  lo : 0 ≤ n
  hi : n ≤ 1048576 * i
theorem CostI.le {c : Clu} {l : List LEnt} {rs : List Int} {R : Int} {i : Nat} {n : Int} (h : CostI c l rs R i n) (hi : i ≤ rs.length) (hr : rs.length ≤ 1048576) : 0 ≤ n ∧ n ≤ 1099511627776 := by
  have := h.lo; have := h.hi; omega
theorem CostI.next {c : Clu} {l : List LEnt} {rs : List Int} {R : Int} {i : Nat} {n : Int} (h : CostI c l rs R i n) (hi : i < rs.length) (hl : l.length ≤ 1048576) : CostI c l rs R (i + 1) (n + (l.length - (hasOf (at' c.srvs (at' rs i).toNat) (at' rs i) l : Nat))) := by
  have q := hasOf_len (at' c.srvs (at' rs i).toNat) (at' rs i) l
  have q1 := h.lo; have q2 := h.hi
  exact ⟨costGo_s hi h.run, by omega, by push_cast; omega⟩
theorem CostI.fin {c : Clu} {l : List LEnt} {rs : List Int} {R : Int} {i : Nat} {n : Int} (h : CostI c l rs R i n) (hi : rs.length ≤ i) : n = R := costGo_e hi h.run
theorem CostI.start {c : Clu} {x : Conf} (h1 : validConf x = true) (h2 : (srcLog c x.primary).isSome = true) : CostI c ((srcLog c x.primary).getD []) x.reps (cost c x) 0 0 := ⟨(cost_y h1 h2).symm, by decide, by decide⟩
def five : List Int := [0, 1, 2, 3, 4]
theorem spare_e2 {l : List Plc} {ms av racks : List Int} {i : Nat} {b R : Int} (hi : 5 ≤ i) (hR : (if areServers ms = true then spareGo l ms av racks (([0, 1, 2, 3, 4] : List Int).drop i) b else b) = R) : b = R := by
  split at hR
  · exact spare_e hi hR
  · exact hR
end
end Go.Abs

/- More plain facts. No condition. -/
import Derived.Test.YtandfgncjpgifaaGreatPure15
set_option linter.unusedVariables false
set_option linter.unusedSimpArgs false
namespace Go.Abs
noncomputable section
structure InstI (o : Clu) (x : Conf) (l : List LEnt) (ms : List Int) (i : Nat) (s : List Srv) : Prop where
  len : s.length = o.srvs.length
  b : ∀ y ∈ s, SrvB y
  run : instAll x l (ms.drop i) (withS o s) = instAll x l ms o
theorem InstI.start {o : Clu} {x : Conf} {l : List LEnt} {ms : List Int} (h : CluB o) : InstI o x l ms 0 o.srvs := ⟨rfl, h.srvs, rfl⟩
theorem InstI.next {o : Clu} {x : Conf} {l : List LEnt} {ms : List Int} {i : Nat} {s : List Srv} (h : InstI o x l ms i s) (hi : i < ms.length) (hx : ConfB x) (hl : l.length ≤ 1048576) : InstI o x l ms (i + 1) (s.set (at' ms i).toNat (install (at' s (at' ms i).toNat) x (at' ms i) l).1) := by
  refine ⟨by rw [List.length_set]; exact h.len, all_set h.b ((srvB_at h.b _).inst hx hl), ?_⟩
  have hR := h.run
  rw [drop_at hi] at hR
  simp only [instAll, setSrv_with] at hR
  exact hR
theorem InstI.fin {o : Clu} {x : Conf} {l : List LEnt} {ms : List Int} {i : Nat} {s : List Srv} (h : InstI o x l ms i s) (hi : ms.length ≤ i) : withS o s = instAll x l ms o := by
  have := h.run
  rw [List.drop_of_length_le hi] at this
  exact this
theorem instAll_B {x : Conf} {l : List LEnt} (hx : ConfB x) (hl : l.length ≤ 1048576) : ∀ (ms : List Int) (d : Clu), CluB d → CluB (instAll x l ms d)
  | [], d, hd => hd
  | m :: ms, d, hd => by
    simp only [instAll]
    exact instAll_B hx hl ms _ (setSrv_B hd ((hd.at _).inst hx hl))
theorem joinTail_len {b t l : List LEnt} {f : Int} (h : joinTail b f t = some l) : l.length ≤ 16 := by
  unfold joinTail at h
  split at h
  · dsimp only at h
    split at h
    · rename_i h2
      simp only [Option.some.injEq] at h
      subst h
      exact isLog_len h2.2
    · simp at h
  · simp at h
theorem witIn_len {c : Clu} {id : Int} {w : Srv} : ∀ (ss : List Srv) (k : Nat) (b : Option (List LEnt)), (∀ l, b = some l → l.length ≤ 16) → ∀ l, witIn c id w k ss b = some l → l.length ≤ 16
  | [], k, b, hb, l, h => hb l h
  | s :: ss, k, b, hb, l, h => by
    simp only [witIn] at h
    refine witIn_len ss _ _ ?_ l h
    intro l2 h2
    split at h2
    · split at h2
      · rename_i l3 h3
        have e := joinTail_len h3
        split at h2
        · simp only [Option.some.injEq] at h2; subst h2; exact e
        · rename_i b2
          split at h2
          · simp only [Option.some.injEq] at h2; subst h2; exact e
          · exact hb l2 h2
      · exact hb l2 h2
    · exact hb l2 h2
theorem witOut_len {c : Clu} {id e : Int} : ∀ (ws : List Int) (b : Option (List LEnt)), (∀ l, b = some l → l.length ≤ 16) → ∀ l, witOut c id e ws b = some l → l.length ≤ 16
  | [], b, hb, l, h => hb l h
  | w :: ws, b, hb, l, h => by
    simp only [witOut] at h
    refine witOut_len ws _ ?_ l h
    intro l2 h2
    split at h2
    · exact witIn_len _ _ _ hb l2 h2
    · exact hb l2 h2
theorem witLog_len {c : Clu} {id : Int} {l : List LEnt} (h : witLog c id = some l) : l.length ≤ 16 := by
  unfold witLog at h
  split at h
  · exact witOut_len _ _ (by simp) l h
  · simp at h
theorem srcLog_len {c : Clu} (hB : CluB c) {id : Int} : ((srcLog c id).getD []).length ≤ 1048576 := by
  cases h : srcLog c id with
  | none => simp
  | some l =>
    simp only [Option.getD_some]
    unfold srcLog at h
    split at h
    · split at h
      · simp only [Option.some.injEq] at h; subst h; simp
      · split at h
        · simp only [Option.some.injEq] at h; subst h; exact (hB.at _).log
        · exact Nat.le_trans (witLog_len h) (by decide)
    · simp at h
theorem act_lt {c : Clu} (h2 : (lastChosen c.mast).2 = true) (h : ¬ (lastChosen c.mast).1.epoch = c.mast.act) : c.mast.act < (lastChosen c.mast).1.epoch := by
  have q := lastChosen_of h2
  have q2 := isML_of q.1
  omega
theorem activ_1a {c : Clu} (h : validClu c = false) : activ c = (c, 1) := by unfold activ; dsimp only; rw [if_pos (.inl h)]
theorem activ_1b {c : Clu} (h : (lastChosen c.mast).2 = false) : activ c = (c, 1) := by unfold activ; dsimp only; rw [if_pos (.inr (.inl h))]
theorem activ_1c {c : Clu} (h : (lastChosen c.mast).1.epoch ≤ c.mast.act) : activ c = (c, 1) := by unfold activ; dsimp only; rw [if_pos (.inr (.inr h))]
structure ActB (c : Clu) : Prop where
  v : validClu c = true
  ch : (lastChosen c.mast).2 = true
  lt : c.mast.act < (lastChosen c.mast).1.epoch
theorem ActB.ne {c : Clu} (h : ActB c) : ¬ (validClu c = false ∨ (lastChosen c.mast).2 = false ∨ (lastChosen c.mast).1.epoch ≤ c.mast.act) := by
  rintro (a | a | a)
  · rw [h.v] at a; simp at a
  · rw [h.ch] at a; simp at a
  · have := h.lt; omega
theorem activ_2 {c : Clu} (h : ActB c) (h4 : mastersWork c = false) : activ c = (c, 8) := by unfold activ; dsimp only; rw [if_neg h.ne, if_pos h4]
theorem activ_3 {c : Clu} (h : ActB c) (h4 : mastersWork c = true) (h5 : (at' c.srvs (lastChosen c.mast).1.primary.toNat).up = false) : activ c = (c, 2) := by
  unfold activ; dsimp only; rw [if_neg h.ne, if_neg (by simp [h4]), if_pos (by simpa [srvAt] using h5)]
theorem activ_4 {c : Clu} (h : ActB c) (h4 : mastersWork c = true) (h5 : (at' c.srvs (lastChosen c.mast).1.primary.toNat).up = true) (h6 : ¬ at' c.sides (lastChosen c.mast).1.primary.toNat = 0) : activ c = (c, 10) := by
  unfold activ; dsimp only; rw [if_neg h.ne, if_neg (by simp [h4]), if_neg (by simp [srvAt, h5]), if_pos h6]
theorem activ_5 {c : Clu} (h : ActB c) (h4 : mastersWork c = true) (h5 : (at' c.srvs (lastChosen c.mast).1.primary.toNat).up = true) (h6 : at' c.sides (lastChosen c.mast).1.primary.toNat = 0) (h7 : leaseOver c.lse c.now = false) : activ c = (c, 7) := by
  unfold activ; dsimp only; rw [if_neg h.ne, if_neg (by simp [h4]), if_neg (by simp [srvAt, h5]), if_neg (by simp [h6]), if_pos h7]
structure ActG (c : Clu) : Prop extends ActB c where
  mw : mastersWork c = true
  up : (at' c.srvs (lastChosen c.mast).1.primary.toNat).up = true
  sd : at' c.sides (lastChosen c.mast).1.primary.toNat = 0
  lo : leaseOver c.lse c.now = true
theorem ActG.eq {c : Clu} (h : ActG c) : activ c = (match srcLog c (lastChosen c.mast).1.primary with
    | none => (sealM c (lastChosen c.mast).1.primary (lastChosen c.mast).1.epoch, 9)
    | some l =>
      if (membersOf (lastChosen c.mast).1).any (fun id => !usable c id) then (sealM c (lastChosen c.mast).1.primary (lastChosen c.mast).1.epoch, 10)
      else if hasNew l = true ∧ (membersOf (lastChosen c.mast).1).any (fun id => (srvAt c id).ver == 1) = true then (sealM c (lastChosen c.mast).1.primary (lastChosen c.mast).1.epoch, 6)
      else (setLease (setMast (instAll (lastChosen c.mast).1 l (membersOf (lastChosen c.mast).1) (sealM c (lastChosen c.mast).1.primary (lastChosen c.mast).1.epoch)) (activateC c.mast (lastChosen c.mast).1.epoch).1) noLse, 0)) := by
  unfold activ; dsimp only; rw [if_neg h.ne, if_neg (by simp [h.mw]), if_neg (by simp [srvAt, h.up]), if_neg (by simp [h.sd]), if_neg (by simp [h.lo])]
  rfl
theorem activ_6 {c : Clu} (h : ActG c) (h8 : (srcLog c (lastChosen c.mast).1.primary).isSome = false) : activ c = (sealM c (lastChosen c.mast).1.primary (lastChosen c.mast).1.epoch, 9) := by
  rw [h.eq]
  cases e : srcLog c (lastChosen c.mast).1.primary with
  | none => rfl
  | some l => rw [e] at h8; simp at h8
theorem activ_7 {c : Clu} (h : ActG c) (h8 : (srcLog c (lastChosen c.mast).1.primary).isSome = true) (h9 : (membersOf (lastChosen c.mast).1).any (fun id => !usable c id) = true) : activ c = (sealM c (lastChosen c.mast).1.primary (lastChosen c.mast).1.epoch, 10) := by
  rw [h.eq]
  cases e : srcLog c (lastChosen c.mast).1.primary with
  | none => rw [e] at h8; simp at h8
  | some l => dsimp only; rw [if_pos h9]
theorem activ_8 {c : Clu} (h : ActG c) (h8 : (srcLog c (lastChosen c.mast).1.primary).isSome = true) (h9 : (membersOf (lastChosen c.mast).1).any (fun id => !usable c id) = false) (h10 : hasNew ((srcLog c (lastChosen c.mast).1.primary).getD []) = true) (h11 : (membersOf (lastChosen c.mast).1).any (fun id => (srvAt c id).ver == 1) = true) : activ c = (sealM c (lastChosen c.mast).1.primary (lastChosen c.mast).1.epoch, 6) := by
  rw [h.eq]
  cases e : srcLog c (lastChosen c.mast).1.primary with
  | none => rw [e] at h8; simp at h8
  | some l =>
    rw [e] at h10
    dsimp only; rw [if_neg (by simp [h9]), if_pos ⟨h10, h11⟩]
theorem activ_9 {c : Clu} (h : ActG c) (h8 : (srcLog c (lastChosen c.mast).1.primary).isSome = true) (h9 : (membersOf (lastChosen c.mast).1).any (fun id => !usable c id) = false) (h10 : (hasNew ((srcLog c (lastChosen c.mast).1.primary).getD []) && (membersOf (lastChosen c.mast).1).any (fun id => (srvAt c id).ver == 1)) = false) :
    activ c = (setLease (setMast (instAll (lastChosen c.mast).1 ((srcLog c (lastChosen c.mast).1.primary).getD []) (membersOf (lastChosen c.mast).1) (sealM c (lastChosen c.mast).1.primary (lastChosen c.mast).1.epoch)) (activateC c.mast (lastChosen c.mast).1.epoch).1) noLse, 0) := by
  rw [h.eq]
  cases e : srcLog c (lastChosen c.mast).1.primary with
  | none => rw [e] at h8; simp at h8
  | some l =>
    rw [e] at h10
    simp only [Option.getD_some] at h10 ⊢
    rw [if_neg (by simp [h9]), if_neg]
    rintro ⟨a, b⟩
    rw [a, b] at h10; simp at h10
theorem activ_B {c : Clu} (h : CluB c) : CluB (activ c).1 := by
  unfold activ
  dsimp only
  repeat' split
  all_goals first | exact h | exact sealM_B h | skip
  rename_i l hl _ _
  refine setLease_B (setMast_B (instAll_B h.m.lc ?_ _ _ (sealM_B h)) h.m.actv)
  have := srcLog_len h (id := (lastChosen c.mast).1.primary)
  rw [hl] at this; exact this
theorem pushTo_len (c : Clu) (id m : Int) : (pushTo c id m).1.srvs.length = c.srvs.length := by
  unfold pushTo; split
  · simp [setSrv]
  · rfl
theorem pushTo_log (c : Clu) (id m : Int) : (at' (pushTo c id m).1.srvs id.toNat).log = (at' c.srvs id.toNat).log := by
  unfold pushTo; split
  · rename_i h
    have q := primAt_of h.1
    have q0 := hasSrv_of q.1
    have r := (primNow_of q.2).2.2.1
    have hm := role_in h.2.1
    simp only [setSrv]
    by_cases e : m = id
    · subst e
      have r' : roleOf (srvAt c m).conf m = 1 := r
      rw [at_set_eq (by omega), if_neg (by rw [r']; decide)]
      rfl
    · rw [at_set_ne (by omega)]
  · rfl
structure PushI (c : Clu) (id : Int) (ms : List Int) (i : Nat) (y : Clu) (a : Bool) : Prop where
  b : CluB y
  len : y.srvs.length = c.srvs.length
  log : (at' y.srvs id.toNat).log = (at' c.srvs id.toNat).log
  run : pushAll id (ms.drop i) (y, a) = pushAll id ms (c, true)
theorem PushI.start {c : Clu} {id : Int} {ms : List Int} (h : CluB c) : PushI c id ms 0 c true := ⟨h, rfl, rfl, rfl⟩
theorem PushI.next {c y : Clu} {id : Int} {ms : List Int} {i : Nat} {a : Bool} (h : PushI c id ms i y a) (hi : i < ms.length) : PushI c id ms (i + 1) (pushTo y id (at' ms i)).1 (a && (pushTo y id (at' ms i)).2) := by
  refine ⟨pushTo_B h.b, by rw [pushTo_len]; exact h.len, by rw [pushTo_log]; exact h.log, ?_⟩
  have hR := h.run
  rw [drop_at hi] at hR
  simp only [pushAll] at hR
  exact hR
theorem PushI.fin {c y : Clu} {id : Int} {ms : List Int} {i : Nat} {a : Bool} (h : PushI c id ms i y a) (hi : ms.length ≤ i) : (y, a) = pushAll id ms (c, true) := by
  have := h.run
  rw [List.drop_of_length_le hi] at this
  exact this
structure ComI (n : Int) (o : Clu) (ms : List Int) (i : Nat) (s : List Srv) : Prop where
  len : s.length = o.srvs.length
  b : ∀ y ∈ s, SrvB y
  log : ∀ j, (at' s j).log = (at' o.srvs j).log
  run : commitAll n (ms.drop i) (withS o s) = commitAll n ms o
theorem ComI.start {n : Int} {o : Clu} {ms : List Int} (h : CluB o) : ComI n o ms 0 o.srvs := ⟨rfl, h.srvs, fun _ => rfl, rfl⟩
theorem ComI.next {n : Int} {o : Clu} {ms : List Int} {i : Nat} {s : List Srv} (h : ComI n o ms i s) (hi : i < ms.length) : ComI n o ms (i + 1) (s.set (at' ms i).toNat (setCommit (at' s (at' ms i).toNat) n)) := by
  refine ⟨by rw [List.length_set]; exact h.len, all_set h.b ?_, fun j => ?_, ?_⟩
  · have := srvB_at h.b (at' ms i).toNat
    exact ⟨this.conf, this.log, this.learned⟩
  · by_cases e : (at' ms i).toNat = j
    · subst e
      by_cases hl : (at' ms i).toNat < s.length
      · rw [at_set_eq hl]; exact h.log _
      · rw [List.set_eq_of_length_le (by omega)]; exact h.log _
    · rw [at_set_ne e]; exact h.log _
  · have hR := h.run
    rw [drop_at hi] at hR
    simp only [commitAll, setSrv_with] at hR
    exact hR
theorem ComI.fin {n : Int} {o : Clu} {ms : List Int} {i : Nat} {s : List Srv} (h : ComI n o ms i s) (hi : ms.length ≤ i) : withS o s = commitAll n ms o := by
  have := h.run
  rw [List.drop_of_length_le hi] at this
  exact this
theorem witIn_no {c : Clu} {id : Int} {w : Srv} {k : Nat} {ss : List Srv} {b R : Option (List LEnt)} (hk : k < ss.length) (hR : witIn c id w k (ss.drop k) b = R) (h : (at' ss k).up = false ∨ sameSide c.sides id k = false ∨ (joinTail (comData (at' ss k) k) w.first w.log).isSome = false) : witIn c id w (k + 1) (ss.drop (k + 1)) b = R := by
  rw [drop_at hk] at hR
  simp only [witIn] at hR
  rw [← hR]
  congr 1
  rcases h with h | h | h
  · rw [if_neg (by simp [h])]
  · rw [if_neg (by simp [h])]
  · split
    · cases e : joinTail (comData (at' ss k) k) w.first w.log with
      | none => rfl
      | some l => rw [e] at h; simp at h
    · rfl
theorem witIn_y {c : Clu} {id : Int} {w : Srv} {k : Nat} {ss : List Srv} {b R : Option (List LEnt)} (hk : k < ss.length) (hR : witIn c id w k (ss.drop k) b = R) (h1 : (at' ss k).up = true) (h2 : sameSide c.sides id k = true) (h3 : (joinTail (comData (at' ss k) k) w.first w.log).isSome = true) (h4 : b.isSome = false ∨ ((b.getD []).length : Int) < ((joinTail (comData (at' ss k) k) w.first w.log).getD []).length) :
    witIn c id w (k + 1) (ss.drop (k + 1)) (some ((joinTail (comData (at' ss k) k) w.first w.log).getD [])) = R := by
  rw [drop_at hk] at hR
  simp only [witIn] at hR
  rw [← hR, if_pos ⟨h1, h2⟩]
  congr 1
  cases e : joinTail (comData (at' ss k) k) w.first w.log with
  | none => rw [e] at h3; simp at h3
  | some l =>
    rw [e] at h4
    simp only [Option.getD_some] at h4 ⊢
    cases b with
    | none => rfl
    | some b2 =>
      rcases h4 with h4 | h4
      · simp at h4
      · simp only [Option.getD_some] at h4
        dsimp only; rw [if_pos (by omega)]
theorem witIn_k {c : Clu} {id : Int} {w : Srv} {k : Nat} {ss : List Srv} {b R : Option (List LEnt)} (hk : k < ss.length) (hR : witIn c id w k (ss.drop k) b = R) (h4 : b.isSome = true) (h5 : (((joinTail (comData (at' ss k) k) w.first w.log).getD []).length : Int) ≤ (b.getD []).length) :
    witIn c id w (k + 1) (ss.drop (k + 1)) b = R := by
  rw [drop_at hk] at hR
  simp only [witIn] at hR
  rw [← hR]
  congr 1
  split
  · cases e : joinTail (comData (at' ss k) k) w.first w.log with
    | none => rfl
    | some l =>
      rw [e] at h5
      simp only [Option.getD_some] at h5
      cases b with
      | none => simp at h4
      | some b2 =>
        simp only [Option.getD_some] at h5
        dsimp only; rw [if_neg (by omega)]
  · rfl
theorem witIn_e {c : Clu} {id : Int} {w : Srv} {k : Nat} {ss : List Srv} {b R : Option (List LEnt)} (hk : ss.length ≤ k) (hR : witIn c id w k (ss.drop k) b = R) : b = R := by
  rw [List.drop_of_length_le hk] at hR; exact hR
theorem witOut_y {c : Clu} {id e : Int} {ws : List Int} {i : Nat} {b b2 R : Option (List LEnt)} (hi : i < ws.length) (hR : witOut c id e (ws.drop i) b = R) (h : hasEpoch c id (at' ws i) e = true) (h2 : b2 = witIn c id (at' c.srvs (at' ws i).toNat) 0 c.srvs b) : witOut c id e (ws.drop (i + 1)) b2 = R := by
  rw [drop_at hi] at hR
  simp only [witOut] at hR
  rw [if_pos h] at hR
  rw [h2]; exact hR
theorem witOut_n {c : Clu} {id e : Int} {ws : List Int} {i : Nat} {b R : Option (List LEnt)} (hi : i < ws.length) (hR : witOut c id e (ws.drop i) b = R) (h : hasEpoch c id (at' ws i) e = false) : witOut c id e (ws.drop (i + 1)) b = R := by
  rw [drop_at hi] at hR
  simp only [witOut] at hR
  rw [if_neg (by simp [h])] at hR
  exact hR
theorem witOut_e {c : Clu} {id e : Int} {ws : List Int} {i : Nat} {b R : Option (List LEnt)} (hi : ws.length ≤ i) (hR : witOut c id e (ws.drop i) b = R) : b = R := by
  rw [List.drop_of_length_le hi] at hR; exact hR
theorem witLog_n {c : Clu} {id : Int} (h : (lastAct c.mast).2 = false ∨ hasSrv c id = false) : witLog c id = none := by
  unfold witLog; rw [if_neg]
  simp only [Bool.and_eq_true]
  rintro ⟨a, b⟩
  rcases h with h | h
  · rw [a] at h; simp at h
  · rw [b] at h; simp at h
end
end Go.Abs

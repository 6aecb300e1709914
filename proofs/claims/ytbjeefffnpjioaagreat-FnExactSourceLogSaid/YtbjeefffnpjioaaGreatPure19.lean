/- More plain facts. No condition. -/
import Derived.Test.YtbjeefffnpjioaaGreatPure18
set_option linter.unusedVariables false
set_option linter.unusedSimpArgs false
namespace Go.Abs
noncomputable section
theorem comPart_len (s : Srv) : (comPart s).length ≤ s.log.length := by
  unfold comPart
  split
  · simp
  · simp; omega
theorem SealR.has {c d : Clu} (h : SealR c d) (hv : validClu c = true) (id : Int) : hasSrv d id = hasSrv c id := by
  simp only [hasSrv, h.valid hv, hv]
theorem witIn_no {c : Clu} {id : Int} {w : Srv} {k : Nat} {ss : List Srv} {b R : Option (List LEnt)} (hk : k < ss.length) (hR : witIn c id w k (ss.drop k) b = R) (h : (at' ss k).up = false ∨ sameSide c.sides id k = false ∨ (joinTail (comData (at' ss k) k) w.first w.log).isSome = false) : witIn c id w (k + 1) (ss.drop (k + 1)) b = R := by
  rw [drop_at hk] at hR
  simp only [witIn] at hR
  rw [← hR]
  congr 1
  rcases h with h | h | h
  · rw [if_neg (by simp [h])]
  · rw [if_neg (by simp [h])]
  · split
    · cases e : joinTail (comData (at' ss k) k) w.first w.log with
      | none => rfl
      | some l => rw [e] at h; simp at h
    · rfl
theorem witIn_y {c : Clu} {id : Int} {w : Srv} {k : Nat} {ss : List Srv} {b R : Option (List LEnt)} (hk : k < ss.length) (hR : witIn c id w k (ss.drop k) b = R) (h1 : (at' ss k).up = true) (h2 : sameSide c.sides id k = true) (h3 : (joinTail (comData (at' ss k) k) w.first w.log).isSome = true) (h4 : b.isSome = false ∨ ((b.getD []).length : Int) < ((joinTail (comData (at' ss k) k) w.first w.log).getD []).length) :
    witIn c id w (k + 1) (ss.drop (k + 1)) (some ((joinTail (comData (at' ss k) k) w.first w.log).getD [])) = R := by
  rw [drop_at hk] at hR
  simp only [witIn] at hR
  rw [← hR, if_pos ⟨h1, h2⟩]
  congr 1
  cases e : joinTail (comData (at' ss k) k) w.first w.log with
  | none => rw [e] at h3; simp at h3
  | some l =>
    rw [e] at h4
    simp only [Option.getD_some] at h4 ⊢
    cases b with
    | none => rfl
    | some b2 =>
      rcases h4 with h4 | h4
      · simp at h4
      · simp only [Option.getD_some] at h4
        dsimp only; rw [if_pos (by omega)]
theorem witIn_k {c : Clu} {id : Int} {w : Srv} {k : Nat} {ss : List Srv} {b R : Option (List LEnt)} (hk : k < ss.length) (hR : witIn c id w k (ss.drop k) b = R) (h4 : b.isSome = true) (h5 : (((joinTail (comData (at' ss k) k) w.first w.log).getD []).length : Int) ≤ (b.getD []).length) :
    witIn c id w (k + 1) (ss.drop (k + 1)) b = R := by
  rw [drop_at hk] at hR
  simp only [witIn] at hR
  rw [← hR]
  congr 1
  split
  · cases e : joinTail (comData (at' ss k) k) w.first w.log with
    | none => rfl
    | some l =>
      rw [e] at h5
      simp only [Option.getD_some] at h5
      cases b with
      | none => simp at h4
      | some b2 =>
        simp only [Option.getD_some] at h5
        dsimp only; rw [if_neg (by omega)]
  · rfl
theorem witIn_e {c : Clu} {id : Int} {w : Srv} {k : Nat} {ss : List Srv} {b R : Option (List LEnt)} (hk : ss.length ≤ k) (hR : witIn c id w k (ss.drop k) b = R) : b = R := by
  rw [List.drop_of_length_le hk] at hR; exact hR
theorem witOut_y {c : Clu} {id e : Int} {ws : List Int} {i : Nat} {b b2 R : Option (List LEnt)} (hi : i < ws.length) (hR : witOut c id e (ws.drop i) b = R) (h : hasEpoch c id (at' ws i) e = true) (h2 : b2 = witIn c id (at' c.srvs (at' ws i).toNat) 0 c.srvs b) : witOut c id e (ws.drop (i + 1)) b2 = R := by
  rw [drop_at hi] at hR
  simp only [witOut] at hR
  rw [if_pos h] at hR
  rw [h2]; exact hR
theorem witOut_n {c : Clu} {id e : Int} {ws : List Int} {i : Nat} {b R : Option (List LEnt)} (hi : i < ws.length) (hR : witOut c id e (ws.drop i) b = R) (h : hasEpoch c id (at' ws i) e = false) : witOut c id e (ws.drop (i + 1)) b = R := by
  rw [drop_at hi] at hR
  simp only [witOut] at hR
  rw [if_neg (by simp [h])] at hR
  exact hR
theorem witOut_e {c : Clu} {id e : Int} {ws : List Int} {i : Nat} {b R : Option (List LEnt)} (hi : ws.length ≤ i) (hR : witOut c id e (ws.drop i) b = R) : b = R := by
  rw [List.drop_of_length_le hi] at hR; exact hR
theorem nextC_y {c : Clu} {want wits : Int} (h : NextB c want wits) (h0 : ¬ ((nextR c want).length : Int) = 0) : nextC c want wits = (⟨c.mast.confs.length + 1, if 0 < (lastAct c.mast).1.epoch ∧ (nextR c want).contains (lastAct c.mast).1.primary = true then (lastAct c.mast).1.primary else at' (nextR c want) 0, nextR c want, if wits = 1 ∧ 0 ≤ spare c.plcs (nextR c want) (without [0, 1, 2, 3, 4] (aliveS c)) then [spare c.plcs (nextR c want) (without [0, 1, 2, 3, 4] (aliveS c))] else []⟩, true) := by
  rw [h.eq, if_neg (by omega)]
theorem he_y {c : Clu} {id o e : Int} (h1 : (at' c.srvs o.toNat).up = true) (h2 : sameSide c.sides id o = true) (h3 : (at' c.srvs o.toNat).conf.epoch = e) : hasEpoch c id o e = true := by
  unfold hasEpoch srvAt; rw [h1, h2, h3]; simp
theorem he_n1 {c : Clu} {id o e : Int} (h1 : (at' c.srvs o.toNat).up = false) : hasEpoch c id o e = false := by
  unfold hasEpoch srvAt; rw [h1]; simp
theorem he_n2 {c : Clu} {id o e : Int} (h1 : sameSide c.sides id o = false) : hasEpoch c id o e = false := by
  unfold hasEpoch srvAt; rw [h1]; simp
theorem he_n3 {c : Clu} {id o e : Int} (h1 : ¬ (at' c.srvs o.toNat).conf.epoch = e) : hasEpoch c id o e = false := by
  unfold hasEpoch srvAt; simp [h1]
theorem has_mk {c : Clu} {id : Int} (h1 : validClu c = true) (h2 : inR id 0 4 = true) : hasSrv c id = true := by unfold hasSrv; rw [h1, h2]; rfl
theorem srv_cvn {c : Clu} {k : Nat} (h : validClu c = true) (hk : k < 5) : (at' c.srvs k).conf = noConf ∨ validConf (at' c.srvs k).conf = true := by
  have := srv_cv (x := (k : Int)) h (by omega)
  simpa using this
theorem comData_len (s : Srv) (id : Int) (h : SrvB s) : (comData s id).length ≤ 1048576 := by
  have := h.log; have := h.learned; have := comPart_len s
  unfold comData; split <;> omega
theorem opt_n {o : Option (List LEnt)} (h : o.isSome = false) : o.getD [] = [] := by
  cases o with
  | none => rfl
  | some l => simp at h
theorem mside_len (l : List Int) : (masterSide l).length ≤ l.length := by
  have key : ∀ (l : List Int) (i : Nat), (msGo i l).length ≤ l.length := by
    intro l
    induction l with
    | nil => intro i; simp [msGo]
    | cons x l ih =>
      intro i
      have := ih (i + 1)
      simp only [msGo]; split
      · simp only [List.length_cons]; omega
      · simp only [List.length_cons]; omega
  unfold masterSide; split
  · exact key l 0
  · simp
theorem kept_eq (c : Clu) : ((lastAct c.mast).1.reps.filter fun id => !(!usable c id || ((srvAt c id).conf.epoch != (lastAct c.mast).1.epoch))) = keptS c := by
  unfold keptS keepF
  congr 1
  funext id
  cases usable c id <;> simp [bne]
theorem nextC_t {c : Clu} {want wits : Int} (h : NextB c want wits) (h0 : ¬ ((nextR c want).length : Int) = 0) : (nextC c want wits).2 = true ∧ (nextC c want wits).1.epoch = c.mast.confs.length + 1 ∧ (nextC c want wits).1.reps = nextR c want := by
  rw [nextC_y h h0]; exact ⟨rfl, rfl, rfl⟩
theorem nextC_p1 {c : Clu} {want wits : Int} (h : NextB c want wits) (h0 : ¬ ((nextR c want).length : Int) = 0) (h1 : 0 < (lastAct c.mast).1.epoch) (h2 : (nextR c want).contains (lastAct c.mast).1.primary = true) : (lastAct c.mast).1.primary = (nextC c want wits).1.primary := by
  rw [nextC_y h h0]; dsimp only; rw [if_pos ⟨h1, h2⟩]
theorem nextC_p2 {c : Clu} {want wits : Int} (h : NextB c want wits) (h0 : ¬ ((nextR c want).length : Int) = 0) (h1 : ¬ 0 < (lastAct c.mast).1.epoch ∨ (nextR c want).contains (lastAct c.mast).1.primary = false) : at' (nextR c want) 0 = (nextC c want wits).1.primary := by
  rw [nextC_y h h0]; dsimp only; rw [if_neg]
  rintro ⟨a, b⟩
  rcases h1 with h1 | h1
  · exact h1 a
  · rw [b] at h1; simp at h1
theorem nextC_w1 {c : Clu} {want wits : Int} (h : NextB c want wits) (h0 : ¬ ((nextR c want).length : Int) = 0) (h1 : wits = 1) (h2 : 0 ≤ spare c.plcs (nextR c want) (without [0, 1, 2, 3, 4] (aliveS c))) : [spare c.plcs (nextR c want) (without [0, 1, 2, 3, 4] (aliveS c))] = (nextC c want wits).1.wits := by
  rw [nextC_y h h0]; dsimp only; rw [if_pos ⟨h1, h2⟩]
theorem nextC_w2 {c : Clu} {want wits : Int} (h : NextB c want wits) (h0 : ¬ ((nextR c want).length : Int) = 0) (h1 : ¬ wits = 1 ∨ spare c.plcs (nextR c want) (without [0, 1, 2, 3, 4] (aliveS c)) < 0) : [] = (nextC c want wits).1.wits := by
  rw [nextC_y h h0]; dsimp only; rw [if_neg]
  rintro ⟨a, b⟩
  rcases h1 with h1 | h1
  · exact h1 a
  · omega
/-! the activation, over what has been sealed -/
/-- the search of a witness's log, the outer loop -/
structure WitO (c : Clu) (id : Int) (i : Nat) (o : Option (List LEnt)) : Prop where
  run : (if ((lastAct c.mast).2 && hasSrv c id) = true then witOut c id (lastAct c.mast).1.epoch ((lastAct c.mast).1.wits.drop i) o else o) = witLog c id
  len : (o.getD []).length ≤ 16
theorem WitO.start (c : Clu) (id : Int) : WitO c id 0 none := ⟨rfl, by simp⟩
theorem WitO.no {c : Clu} {id : Int} {i : Nat} {o : Option (List LEnt)} (h : WitO c id i o) (hi : i < (lastAct c.mast).1.wits.length) (hn : hasEpoch c id (at' (lastAct c.mast).1.wits i) (lastAct c.mast).1.epoch = false) : WitO c id (i + 1) o := by
  refine ⟨?_, h.len⟩
  have := h.run
  split at this
  · rename_i hc; rw [if_pos hc]; exact witOut_n hi this hn
  · rename_i hc; rw [if_neg hc]; exact this
/-- the inner loop -/
structure WitK (c : Clu) (id : Int) (w : Srv) (R : Option (List LEnt)) (k : Nat) (p : Option (List LEnt)) : Prop where
  run : witIn c id w k (c.srvs.drop k) p = R
  len : (p.getD []).length ≤ 16
theorem WitK.start {c : Clu} {id : Int} {w : Srv} {i : Nat} {o : Option (List LEnt)} (h : WitO c id i o) : WitK c id w (witIn c id w 0 c.srvs o) 0 o := ⟨rfl, h.len⟩
theorem WitK.no {c : Clu} {id : Int} {w : Srv} {R p : Option (List LEnt)} {k : Nat} (h : WitK c id w R k p) (hk : k < c.srvs.length) (hn : (at' c.srvs k).up = false ∨ sameSide c.sides id k = false ∨ (joinTail (comData (at' c.srvs k) k) w.first w.log).isSome = false) : WitK c id w R (k + 1) p := ⟨witIn_no hk h.run hn, h.len⟩
theorem jt_len (b t : List LEnt) (f : Int) : ((joinTail b f t).getD []).length ≤ 16 := by
  cases h : joinTail b f t with
  | none => simp
  | some l => exact joinTail_len h
theorem WitK.yes {c : Clu} {id : Int} {w : Srv} {R p : Option (List LEnt)} {k : Nat} (h : WitK c id w R k p) (hk : k < c.srvs.length) (h1 : (at' c.srvs k).up = true) (h2 : sameSide c.sides id k = true) (h3 : (joinTail (comData (at' c.srvs k) k) w.first w.log).isSome = true) (h4 : p.isSome = false ∨ ((p.getD []).length : Int) < ((joinTail (comData (at' c.srvs k) k) w.first w.log).getD []).length) :
    WitK c id w R (k + 1) (some ((joinTail (comData (at' c.srvs k) k) w.first w.log).getD [])) := ⟨witIn_y hk h.run h1 h2 h3 h4, jt_len _ _ _⟩
theorem WitK.keep {c : Clu} {id : Int} {w : Srv} {R p : Option (List LEnt)} {k : Nat} (h : WitK c id w R k p) (hk : k < c.srvs.length) (h4 : p.isSome = true) (h5 : (((joinTail (comData (at' c.srvs k) k) w.first w.log).getD []).length : Int) ≤ (p.getD []).length) : WitK c id w R (k + 1) p := ⟨witIn_k hk h.run h4 h5, h.len⟩
theorem WitO.yes {c : Clu} {id : Int} {i k : Nat} {o p : Option (List LEnt)} (h : WitO c id i o) (hi : i < (lastAct c.mast).1.wits.length) (h1 : (lastAct c.mast).2 = true) (h2 : hasSrv c id = true) (hy : hasEpoch c id (at' (lastAct c.mast).1.wits i) (lastAct c.mast).1.epoch = true)
    (hK : WitK c id (at' c.srvs (at' (lastAct c.mast).1.wits i).toNat) (witIn c id (at' c.srvs (at' (lastAct c.mast).1.wits i).toNat) 0 c.srvs o) k p) (hk : 5 ≤ k) : WitO c id (i + 1) p := by
  have q := hasSrv_of h2
  have e := witIn_e (by omega) hK.run
  refine ⟨?_, hK.len⟩
  have := h.run
  have hc : ((lastAct c.mast).2 && hasSrv c id) = true := by rw [h1, h2]; rfl
  rw [if_pos hc] at this ⊢
  exact witOut_y hi this hy e
theorem WitO.fin {c : Clu} {id : Int} {i : Nat} {o : Option (List LEnt)} (h : WitO c id i o) (hi : (lastAct c.mast).1.wits.length ≤ i) : o = witLog c id := by
  have := h.run
  split at this
  · exact witOut_e hi this
  · exact this
theorem WitO.out {c : Clu} {id : Int} {i : Nat} {o : Option (List LEnt)} (h : WitO c id i o) (hn : (lastAct c.mast).2 = false ∨ validClu c = false ∨ inR id 0 4 = false) : o = witLog c id := by
  have := h.run
  rw [if_neg] at this
  · exact this
  · simp only [hasSrv, Bool.and_eq_true]
    rintro ⟨a, b, d⟩
    rcases hn with hn | hn | hn
    · rw [a] at hn; simp at hn
    · rw [b] at hn; simp at hn
    · rw [d] at hn; simp at hn
end
end Go.Abs

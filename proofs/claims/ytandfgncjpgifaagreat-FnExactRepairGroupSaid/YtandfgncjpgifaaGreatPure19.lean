/- More plain facts. No condition. -/
import Derived.Test.YtandfgncjpgifaaGreatPure18
set_option linter.unusedVariables false
set_option linter.unusedSimpArgs false
namespace Go.Abs
noncomputable section
theorem he_y {c : Clu} {id o e : Int} (h1 : (at' c.srvs o.toNat).up = true) (h2 : sameSide c.sides id o = true) (h3 : (at' c.srvs o.toNat).conf.epoch = e) : hasEpoch c id o e = true := by
  unfold hasEpoch srvAt; rw [h1, h2, h3]; simp
theorem he_n1 {c : Clu} {id o e : Int} (h1 : (at' c.srvs o.toNat).up = false) : hasEpoch c id o e = false := by
  unfold hasEpoch srvAt; rw [h1]; simp
theorem he_n2 {c : Clu} {id o e : Int} (h1 : sameSide c.sides id o = false) : hasEpoch c id o e = false := by
  unfold hasEpoch srvAt; rw [h1]; simp
theorem he_n3 {c : Clu} {id o e : Int} (h1 : ¬ (at' c.srvs o.toNat).conf.epoch = e) : hasEpoch c id o e = false := by
  unfold hasEpoch srvAt; simp [h1]
theorem has_mk {c : Clu} {id : Int} (h1 : validClu c = true) (h2 : inR id 0 4 = true) : hasSrv c id = true := by unfold hasSrv; rw [h1, h2]; rfl
theorem srv_cvn {c : Clu} {k : Nat} (h : validClu c = true) (hk : k < 5) : (at' c.srvs k).conf = noConf ∨ validConf (at' c.srvs k).conf = true := by
  have := srv_cv (x := (k : Int)) h (by omega)
  simpa using this
theorem comData_len (s : Srv) (id : Int) (h : SrvB s) : (comData s id).length ≤ 1048576 := by
  have := h.log; have := h.learned; have := comPart_len s
  unfold comData; split <;> omega
theorem opt_n {o : Option (List LEnt)} (h : o.isSome = false) : o.getD [] = [] := by
  cases o with
  | none => rfl
  | some l => simp at h
theorem mside_len (l : List Int) : (masterSide l).length ≤ l.length := by
  have key : ∀ (l : List Int) (i : Nat), (msGo i l).length ≤ l.length := by
    intro l
    induction l with
    | nil => intro i; simp [msGo]
    | cons x l ih =>
      intro i
      have := ih (i + 1)
      simp only [msGo]; split
      · simp only [List.length_cons]; omega
      · simp only [List.length_cons]; omega
  unfold masterSide; split
  · exact key l 0
  · simp
theorem kept_eq (c : Clu) : ((lastAct c.mast).1.reps.filter fun id => !(!usable c id || ((srvAt c id).conf.epoch != (lastAct c.mast).1.epoch))) = keptS c := by
  unfold keptS keepF
  congr 1
  funext id
  cases usable c id <;> simp [bne]
theorem nextC_t {c : Clu} {want wits : Int} (h : NextB c want wits) (h0 : ¬ ((nextR c want).length : Int) = 0) : (nextC c want wits).2 = true ∧ (nextC c want wits).1.epoch = c.mast.confs.length + 1 ∧ (nextC c want wits).1.reps = nextR c want := by
  rw [nextC_y h h0]; exact ⟨rfl, rfl, rfl⟩
theorem nextC_p1 {c : Clu} {want wits : Int} (h : NextB c want wits) (h0 : ¬ ((nextR c want).length : Int) = 0) (h1 : 0 < (lastAct c.mast).1.epoch) (h2 : (nextR c want).contains (lastAct c.mast).1.primary = true) : (lastAct c.mast).1.primary = (nextC c want wits).1.primary := by
  rw [nextC_y h h0]; dsimp only; rw [if_pos ⟨h1, h2⟩]
theorem nextC_p2 {c : Clu} {want wits : Int} (h : NextB c want wits) (h0 : ¬ ((nextR c want).length : Int) = 0) (h1 : ¬ 0 < (lastAct c.mast).1.epoch ∨ (nextR c want).contains (lastAct c.mast).1.primary = false) : at' (nextR c want) 0 = (nextC c want wits).1.primary := by
  rw [nextC_y h h0]; dsimp only; rw [if_neg]
  rintro ⟨a, b⟩
  rcases h1 with h1 | h1
  · exact h1 a
  · rw [b] at h1; simp at h1
theorem nextC_w1 {c : Clu} {want wits : Int} (h : NextB c want wits) (h0 : ¬ ((nextR c want).length : Int) = 0) (h1 : wits = 1) (h2 : 0 ≤ spare c.plcs (nextR c want) (without [0, 1, 2, 3, 4] (aliveS c))) : [spare c.plcs (nextR c want) (without [0, 1, 2, 3, 4] (aliveS c))] = (nextC c want wits).1.wits := by
  rw [nextC_y h h0]; dsimp only; rw [if_pos ⟨h1, h2⟩]
theorem nextC_w2 {c : Clu} {want wits : Int} (h : NextB c want wits) (h0 : ¬ ((nextR c want).length : Int) = 0) (h1 : ¬ wits = 1 ∨ spare c.plcs (nextR c want) (without [0, 1, 2, 3, 4] (aliveS c)) < 0) : [] = (nextC c want wits).1.wits := by
  rw [nextC_y h h0]; dsimp only; rw [if_neg]
  rintro ⟨a, b⟩
  rcases h1 with h1 | h1
  · exact h1 a
  · omega
theorem activ_6i {c : Clu} (h : ActG c) (h8 : (srcLog (sealM c (lastChosen c.mast).1.primary (lastChosen c.mast).1.epoch) (lastChosen c.mast).1.primary).isSome = false) : activ c = (sealM c (lastChosen c.mast).1.primary (lastChosen c.mast).1.epoch, 9) := activ_6 h (by rw [← sealM_src h.v]; exact h8)
theorem any_us (c : Clu) (ms : List Int) : ms.any (fun id => !usable (sealM c (lastChosen c.mast).1.primary (lastChosen c.mast).1.epoch) id) = ms.any (fun id => !usable c id) := by simp only [sealM_usable]
theorem any_ve (c : Clu) (ms : List Int) : ms.any (fun id => (at' (sealM c (lastChosen c.mast).1.primary (lastChosen c.mast).1.epoch).srvs id.toNat).ver == 1) = ms.any (fun id => (srvAt c id).ver == 1) := by simp only [sealM_ver, srvAt]
theorem activ_7i {c : Clu} (h : ActG c) (h8 : (srcLog (sealM c (lastChosen c.mast).1.primary (lastChosen c.mast).1.epoch) (lastChosen c.mast).1.primary).isSome = true) (h9 : (membersOf (lastChosen c.mast).1).any (fun id => !usable (sealM c (lastChosen c.mast).1.primary (lastChosen c.mast).1.epoch) id) = true) : activ c = (sealM c (lastChosen c.mast).1.primary (lastChosen c.mast).1.epoch, 10) :=
  activ_7 h (by rw [← sealM_src h.v]; exact h8) (by rw [← any_us]; exact h9)
theorem activ_8i {c : Clu} (h : ActG c) (h8 : (srcLog (sealM c (lastChosen c.mast).1.primary (lastChosen c.mast).1.epoch) (lastChosen c.mast).1.primary).isSome = true) (h9 : (membersOf (lastChosen c.mast).1).any (fun id => !usable (sealM c (lastChosen c.mast).1.primary (lastChosen c.mast).1.epoch) id) = false)
    (h10 : hasNew ((srcLog (sealM c (lastChosen c.mast).1.primary (lastChosen c.mast).1.epoch) (lastChosen c.mast).1.primary).getD []) = true) (h11 : (membersOf (lastChosen c.mast).1).any (fun id => (at' (sealM c (lastChosen c.mast).1.primary (lastChosen c.mast).1.epoch).srvs id.toNat).ver == 1) = true) : activ c = (sealM c (lastChosen c.mast).1.primary (lastChosen c.mast).1.epoch, 6) :=
  activ_8 h (by rw [← sealM_src h.v]; exact h8) (by rw [← any_us]; exact h9) (by rw [← sealM_src h.v (lastChosen c.mast).1.primary (lastChosen c.mast).1.epoch]; exact h10) (by rw [← any_ve]; exact h11)
theorem activ_9i {c : Clu} (h : ActG c) (h8 : (srcLog (sealM c (lastChosen c.mast).1.primary (lastChosen c.mast).1.epoch) (lastChosen c.mast).1.primary).isSome = true) (h9 : (membersOf (lastChosen c.mast).1).any (fun id => !usable (sealM c (lastChosen c.mast).1.primary (lastChosen c.mast).1.epoch) id) = false)
    (h10 : hasNew ((srcLog (sealM c (lastChosen c.mast).1.primary (lastChosen c.mast).1.epoch) (lastChosen c.mast).1.primary).getD []) = false ∨ (membersOf (lastChosen c.mast).1).any (fun id => (at' (sealM c (lastChosen c.mast).1.primary (lastChosen c.mast).1.epoch).srvs id.toNat).ver == 1) = false) :
    activ c = (setLease (setMast (instAll (lastChosen c.mast).1 ((srcLog (sealM c (lastChosen c.mast).1.primary (lastChosen c.mast).1.epoch) (lastChosen c.mast).1.primary).getD []) (membersOf (lastChosen c.mast).1) (sealM c (lastChosen c.mast).1.primary (lastChosen c.mast).1.epoch)) (activateC (sealM c (lastChosen c.mast).1.primary (lastChosen c.mast).1.epoch).mast (lastChosen c.mast).1.epoch).1) noLse, 0) := by
  rw [sealM_mast, sealM_src h.v]
  refine activ_9 h (by rw [← sealM_src h.v]; exact h8) (by rw [← any_us]; exact h9) ?_
  rw [sealM_src h.v, any_ve] at h10
  rcases h10 with a | a
  · rw [a]; rfl
  · rw [a]; simp
structure WitO (c : Clu) (id : Int) (i : Nat) (o : Option (List LEnt)) : Prop where
  run : (if ((lastAct c.mast).2 && hasSrv c id) = true then witOut c id (lastAct c.mast).1.epoch ((lastAct c.mast).1.wits.drop i) o else o) = witLog c id
  len : (o.getD []).length ≤ 16
theorem WitO.start (c : Clu) (id : Int) : WitO c id 0 none := ⟨rfl, by simp⟩
theorem WitO.no {c : Clu} {id : Int} {i : Nat} {o : Option (List LEnt)} (h : WitO c id i o) (hi : i < (lastAct c.mast).1.wits.length) (hn : hasEpoch c id (at' (lastAct c.mast).1.wits i) (lastAct c.mast).1.epoch = false) : WitO c id (i + 1) o := by
  refine ⟨?_, h.len⟩
  have := h.run
  split at this
  · rename_i hc; rw [if_pos hc]; exact witOut_n hi this hn
  · rename_i hc; rw [if_neg hc]; exact this
structure WitK (c : Clu) (id : Int) (w : Srv) (R : Option (List LEnt)) (k : Nat) (p : Option (List LEnt)) : Prop where
  run : witIn c id w k (c.srvs.drop k) p = R
  len : (p.getD []).length ≤ 16
theorem WitK.start {c : Clu} {id : Int} {w : Srv} {i : Nat} {o : Option (List LEnt)} (h : WitO c id i o) : WitK c id w (witIn c id w 0 c.srvs o) 0 o := ⟨rfl, h.len⟩
theorem WitK.no {c : Clu} {id : Int} {w : Srv} {R p : Option (List LEnt)} {k : Nat} (h : WitK c id w R k p) (hk : k < c.srvs.length) (hn : (at' c.srvs k).up = false ∨ sameSide c.sides id k = false ∨ (joinTail (comData (at' c.srvs k) k) w.first w.log).isSome = false) : WitK c id w R (k + 1) p := ⟨witIn_no hk h.run hn, h.len⟩
theorem jt_len (b t : List LEnt) (f : Int) : ((joinTail b f t).getD []).length ≤ 16 := by
  cases h : joinTail b f t with
  | none => simp
  | some l => exact joinTail_len h
theorem WitK.yes {c : Clu} {id : Int} {w : Srv} {R p : Option (List LEnt)} {k : Nat} (h : WitK c id w R k p) (hk : k < c.srvs.length) (h1 : (at' c.srvs k).up = true) (h2 : sameSide c.sides id k = true) (h3 : (joinTail (comData (at' c.srvs k) k) w.first w.log).isSome = true) (h4 : p.isSome = false ∨ ((p.getD []).length : Int) < ((joinTail (comData (at' c.srvs k) k) w.first w.log).getD []).length) :
    WitK c id w R (k + 1) (some ((joinTail (comData (at' c.srvs k) k) w.first w.log).getD [])) := ⟨witIn_y hk h.run h1 h2 h3 h4, jt_len _ _ _⟩
theorem WitK.keep {c : Clu} {id : Int} {w : Srv} {R p : Option (List LEnt)} {k : Nat} (h : WitK c id w R k p) (hk : k < c.srvs.length) (h4 : p.isSome = true) (h5 : (((joinTail (comData (at' c.srvs k) k) w.first w.log).getD []).length : Int) ≤ (p.getD []).length) : WitK c id w R (k + 1) p := ⟨witIn_k hk h.run h4 h5, h.len⟩
theorem WitO.yes {c : Clu} {id : Int} {i k : Nat} {o p : Option (List LEnt)} (h : WitO c id i o) (hi : i < (lastAct c.mast).1.wits.length) (h1 : (lastAct c.mast).2 = true) (h2 : hasSrv c id = true) (hy : hasEpoch c id (at' (lastAct c.mast).1.wits i) (lastAct c.mast).1.epoch = true)
    (hK : WitK c id (at' c.srvs (at' (lastAct c.mast).1.wits i).toNat) (witIn c id (at' c.srvs (at' (lastAct c.mast).1.wits i).toNat) 0 c.srvs o) k p) (hk : 5 ≤ k) : WitO c id (i + 1) p := by
  have q := hasSrv_of h2
  have e := witIn_e (by omega) hK.run
  refine ⟨?_, hK.len⟩
  have := h.run
  have hc : ((lastAct c.mast).2 && hasSrv c id) = true := by rw [h1, h2]; rfl
  rw [if_pos hc] at this ⊢
  exact witOut_y hi this hy e
theorem WitO.fin {c : Clu} {id : Int} {i : Nat} {o : Option (List LEnt)} (h : WitO c id i o) (hi : (lastAct c.mast).1.wits.length ≤ i) : o = witLog c id := by
  have := h.run
  split at this
  · exact witOut_e hi this
  · exact this
theorem WitO.out {c : Clu} {id : Int} {i : Nat} {o : Option (List LEnt)} (h : WitO c id i o) (hn : (lastAct c.mast).2 = false ∨ validClu c = false ∨ inR id 0 4 = false) : o = witLog c id := by
  have := h.run
  rw [if_neg] at this
  · exact this
  · simp only [hasSrv, Bool.and_eq_true]
    rintro ⟨a, b, d⟩
    rcases hn with hn | hn | hn
    · rw [a] at hn; simp at hn
    · rw [b] at hn; simp at hn
    · rw [d] at hn; simp at hn
end
end Go.Abs

/- More plain facts. No condition. -/
import Derived.Test.YtijifinpifomcaaPure14
set_option linter.unusedVariables false
set_option linter.unusedSimpArgs false
set_option linter.unusedVariables false
set_option linter.unusedSimpArgs false
namespace Go.Abs
noncomputable section
def withS (c : Clu) (s : List Srv) : Clu := ⟨c.now, s, c.sides, c.mast, c.mup, c.lse, c.plcs⟩
theorem setSrv_with (c : Clu) (s : List Srv) (id : Int) (x : Srv) : setSrv (withS c s) id x = withS c (s.set id.toNat x) := rfl
theorem at_set_eq {α : Type} [Inhabited α] {l : List α} {i : Nat} {x : α} (h : i < l.length) : at' (l.set i x) i = x := by
  simp [at', List.getD_eq_getElem?_getD, h]
theorem all_set {p : Srv → Prop} {s : List Srv} {k : Nat} {x : Srv} (h : ∀ y ∈ s, p y) (hx : p x) : ∀ y ∈ s.set k x, p y := by
  intro y hy
  rcases List.mem_or_eq_of_mem_set hy with hy | rfl
  · exact h y hy
  · exact hx
theorem srvB_at {s : List Srv} (h : ∀ y ∈ s, SrvB y) (k : Nat) : SrvB (at' s k) := at_or h ⟨⟨Nat.zero_le _, Nat.zero_le _⟩, Nat.zero_le _, Nat.zero_le _⟩ k
structure SealI (c : Clu) (id e : Int) (ms : List Int) (i : Nat) (s : List Srv) : Prop where
  len : s.length = c.srvs.length
  b : ∀ x ∈ s, SrvB x
  run : sealAll c id e (ms.drop i) (withS c s) = sealAll c id e ms c
  same : ∀ j, i ≤ j → j < ms.length → at' s (at' ms j).toNat = at' c.srvs (at' ms j).toNat
theorem SealI.no {c : Clu} {id e : Int} {x : Conf} {i : Nat} {s : List Srv} (h : SealI c id e (membersOf x) i s) (hi : i < (membersOf x).length) (hn : (at' s (at' (membersOf x) i).toNat).up = false ∨ sameSide c.sides id (at' (membersOf x) i) = false) :
    SealI c id e (membersOf x) (i + 1) s := by
  have e1 := h.same i (Nat.le_refl _) hi
  refine ⟨h.len, h.b, ?_, fun j h1 h2 => h.same j (by omega) h2⟩
  have hR := h.run
  rw [drop_at hi] at hR
  simp only [sealAll] at hR
  have hc : ¬ ((srvAt c (at' (membersOf x) i)).up = true ∧ sameSide c.sides id (at' (membersOf x) i) = true) := by
    rintro ⟨a, b⟩
    unfold srvAt at a
    rcases hn with hn | hn
    · rw [e1, a] at hn; simp at hn
    · rw [b] at hn; simp at hn
  rw [if_neg hc] at hR
  exact hR
def noEp (s : Srv) : Srv := ⟨s.up, s.intact, s.ver, 0, s.conf, s.first, s.log, s.commit, s.learned⟩
theorem map_at {α β : Type} [Inhabited α] [Inhabited β] {f : α → β} (h0 : f default = default) (l : List α) (j : Nat) : at' (l.map f) j = f (at' l j) := by
  by_cases hj : j < l.length
  · simp [at', List.getD_eq_getElem?_getD, hj]
  · simp [at', List.getD_eq_getElem?_getD, List.getElem?_eq_none (by omega : l.length ≤ j), h0]
structure SealR (c d : Clu) : Prop where
  now : d.now = c.now
  sides : d.sides = c.sides
  mast : d.mast = c.mast
  mup : d.mup = c.mup
  lse : d.lse = c.lse
  plcs : d.plcs = c.plcs
  srvs : d.srvs.map noEp = c.srvs.map noEp
  ep : ∀ j, (at' d.srvs j).epoch = (at' c.srvs j).epoch ∨ ((at' c.srvs j).epoch < (at' d.srvs j).epoch ∧ 1 ≤ (at' d.srvs j).epoch ∧ (at' d.srvs j).epoch ≤ 20 ∧ (at' d.srvs j).epoch ≤ c.mast.confs.length)
theorem SealR.len {c d : Clu} (h : SealR c d) : d.srvs.length = c.srvs.length := by simpa using congrArg List.length h.srvs
theorem SealR.at {c d : Clu} (h : SealR c d) (j : Nat) : noEp (at' d.srvs j) = noEp (at' c.srvs j) := by
  rw [← map_at (f := noEp) rfl, ← map_at (f := noEp) rfl, h.srvs]
theorem srvsOK_mk {c : Clu} : ∀ {ss : List Srv} {i : Nat}, (∀ j, j < ss.length → validSrv (at' ss j) (((i + j : Nat)) : Int) = true ∧ (at' ss j).epoch ≤ c.mast.confs.length ∧ lastE (at' ss j).learned ≤ c.mast.act ∧
    ((at' ss j).conf = noConf ∨ ((confAt c.mast (at' ss j).conf.epoch).2 = true ∧ (confAt c.mast (at' ss j).conf.epoch).1 = (at' ss j).conf ∧ (at' ss j).conf.epoch ≤ c.mast.act))) → srvsOK c i ss = true
  | [], i, _ => rfl
  | s :: ss, i, h => by
    have h0 := h 0 (by simp)
    have hs := srvsOK_mk (c := c) (ss := ss) (i := i + 1) (fun j hj => by
      have := h (j + 1) (by simpa using hj)
      simp only [at', List.getD_cons_succ] at this ⊢
      rw [show i + (j + 1) = i + 1 + j by omega] at this
      exact this)
    simp only [srvsOK, Bool.and_eq_true, Bool.or_eq_true, decide_eq_true_eq]
    simp only [at', List.getD_cons_zero, Nat.add_zero] at h0
    refine ⟨⟨⟨⟨h0.1, h0.2.1⟩, h0.2.2.1⟩, ?_⟩, hs⟩
    rcases h0.2.2.2 with h1 | h1
    · exact .inl h1
    · exact .inr ⟨⟨h1.1, h1.2.1⟩, h1.2.2⟩
theorem srvsOK_congr {c d : Clu} (h : d.mast = c.mast) : ∀ (ss : List Srv) (i : Nat), srvsOK d i ss = srvsOK c i ss
  | [], i => rfl
  | s :: ss, i => by simp only [srvsOK, h, srvsOK_congr h ss (i + 1)]
theorem noEp_f {s t : Srv} (h : noEp s = noEp t) : s.up = t.up ∧ s.intact = t.intact ∧ s.ver = t.ver ∧ s.conf = t.conf ∧ s.first = t.first ∧ s.log = t.log ∧ s.commit = t.commit ∧ s.learned = t.learned := by
  simp only [noEp, Srv.mk.injEq] at h
  exact ⟨h.1, h.2.1, h.2.2.1, h.2.2.2.2.1, h.2.2.2.2.2.1, h.2.2.2.2.2.2.1, h.2.2.2.2.2.2.2.1, h.2.2.2.2.2.2.2.2⟩
theorem validSrv_up {s t : Srv} {id : Int} (h : noEp t = noEp s) (he : t.epoch = s.epoch ∨ (s.epoch < t.epoch ∧ 1 ≤ t.epoch ∧ t.epoch ≤ 20)) (hv : validSrv s id = true) : validSrv t id = true := by
  have f := noEp_f h
  rcases he with he | he
  · have : t = s := by cases s; cases t; simp_all
    rw [this]; exact hv
  · have q := validSrv_of hv
    unfold validSrv at hv ⊢
    split at hv
    · rename_i h1
      simp only [Bool.and_eq_true, decide_eq_true_eq, inR_iff] at h1
      rw [if_pos (by simp only [f, Bool.and_eq_true, decide_eq_true_eq, inR_iff]; exact ⟨⟨⟨⟨⟨⟨h1.1.1.1.1.1.1, by omega⟩, h1.1.1.1.1.2⟩, h1.1.1.1.2⟩, h1.1.1.2⟩, h1.1.2⟩, h1.2⟩)]
      simp only [f]
      split at hv
      · rename_i h2; rw [if_pos h2]; exact hv
      · rename_i h2
        rw [if_neg h2]
        split at hv
        · rename_i h3
          simp only [Bool.and_eq_true, decide_eq_true_eq] at h3
          rw [if_pos (by simp only [Bool.and_eq_true, decide_eq_true_eq]; exact ⟨⟨h3.1.1, by omega⟩, h3.2⟩)]
          exact hv
        · simp at hv
    · simp at hv
theorem SealR.valid {c d : Clu} (h : SealR c d) (hv : validClu c = true) : validClu d = true := by
  have q := validClu_of hv
  have hs : srvsOK d 0 d.srvs = true := by
    rw [srvsOK_congr h.mast]
    refine srvsOK_mk fun j hj => ?_
    have k := srvsOK_at q.2.2.2.2.2.2.2.2.2.2 (j := j) (by rw [← h.len]; exact hj)
    have f := noEp_f (h.at j)
    have e := h.ep j
    refine ⟨validSrv_up (h.at j) (by rcases e with e | e; exact .inl e; exact .inr ⟨e.1, e.2.1, e.2.2.1⟩) k.1, ?_, by rw [f.2.2.2.2.2.2.2]; exact k.2.2.1, by rw [f.2.2.2.1]; exact k.2.2.2⟩
    rcases e with e | e
    · rw [e]; exact k.2.1
    · exact e.2.2.2
  have hv2 := hv
  simp only [validClu, Bool.and_eq_true] at hv2 ⊢
  rw [h.now, h.sides, h.mast, h.mup, h.lse, h.plcs, h.len]
  exact ⟨hv2.1, hs⟩
theorem SealR.srv {c d : Clu} (h : SealR c d) (id : Int) : noEp (srvAt d id) = noEp (srvAt c id) := h.at id.toNat
theorem comData_ep {s t : Srv} (h : noEp s = noEp t) (id : Int) : comData s id = comData t id := by
  have f := noEp_f h
  unfold comData comPart isRep
  simp only [f]
theorem SealR.hasEp {c d : Clu} (h : SealR c d) (id o e : Int) : hasEpoch d id o e = hasEpoch c id o e := by
  have f := noEp_f (h.srv o)
  simp only [hasEpoch, f, h.sides]
theorem SealR.bestOf {c d : Clu} (h : SealR c d) : ∀ (l : List Int) (b : Int), bestOf d b l = bestOf c b l
  | [], b => rfl
  | o :: os, b => by
    have f1 := noEp_f (h.srv b)
    have f2 := noEp_f (h.srv o)
    simp only [Go.Abs.bestOf, f1, f2]
    exact SealR.bestOf h os _
theorem SealR.has {c d : Clu} (h : SealR c d) (hv : validClu c = true) (id : Int) : hasSrv d id = hasSrv c id := by
  simp only [hasSrv, h.valid hv, hv]
theorem SealR.witIn {c d : Clu} (h : SealR c d) {id : Int} {w w2 : Srv} (hw : noEp w2 = noEp w) : ∀ (ss ss2 : List Srv) (k : Nat) (b : Option (List LEnt)), ss2.map noEp = ss.map noEp → witIn d id w2 k ss2 b = witIn c id w k ss b
  | [], [], k, b, _ => rfl
  | [], _ :: _, k, b, hs => by simp at hs
  | _ :: _, [], k, b, hs => by simp at hs
  | s :: ss, s2 :: ss2, k, b, hs => by
    simp only [List.map_cons, List.cons.injEq] at hs
    have f := noEp_f hs.1
    have g := noEp_f hw
    simp only [Go.Abs.witIn, comData_ep hs.1, f.1, g, h.sides]
    exact SealR.witIn h hw ss ss2 _ _ hs.2
theorem SealR.witOut {c d : Clu} (h : SealR c d) {id e : Int} : ∀ (ws : List Int) (b : Option (List LEnt)), witOut d id e ws b = witOut c id e ws b
  | [], b => rfl
  | w :: ws, b => by
    simp only [Go.Abs.witOut, h.hasEp, h.witIn (h.srv w) c.srvs d.srvs 0 b h.srvs]
    exact SealR.witOut h ws _
end
end Go.Abs

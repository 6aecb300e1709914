/- More plain facts. No condition. -/
import Derived.Test.YtlpbeejmefhpeaaGreatPure24
set_option linter.unusedVariables false
set_option linter.unusedSimpArgs false
namespace Go.Abs
open Go
noncomputable section
theorem all_y {α : Type} [Inhabited α] {l : List α} {p : α → Bool} {j : Nat} {r : Bool} (hj : j < l.length) (hA : (l.drop j).all p = r) (h : p (at' l j) = true) : (l.drop (j + 1)).all p = r := by
  rw [drop_at hj, List.all_cons, h, Bool.true_and] at hA; exact hA
theorem all_n {α : Type} [Inhabited α] {l : List α} {p : α → Bool} {j : Nat} {r : Bool} (hj : j < l.length) (hA : (l.drop j).all p = r) (h : p (at' l j) = false) : r = false := by
  rw [drop_at hj, List.all_cons, h, Bool.false_and] at hA; exact hA.symm
theorem all_e {α : Type} {l : List α} {p : α → Bool} {j : Nat} {r : Bool} (hj : l.length ≤ j) (hA : (l.drop j).all p = r) : r = true := by
  rw [List.drop_of_length_le hj] at hA; exact hA.symm
theorem bef_y {l : List Sess} {c : Int} {k r : Nat} (hk : k < l.length) (hR : k + before (l.drop k) c = r) (h : (at' l k).client < c) : (k + 1) + before (l.drop (k + 1)) c = r := by
  rw [drop_at hk] at hR
  rw [← hR]
  simp only [before, List.takeWhile_cons, h, decide_true, if_true, List.length_cons]
  omega
theorem bef_n {l : List Sess} {c : Int} {k r : Nat} (hk : k < l.length) (hR : k + before (l.drop k) c = r) (h : ¬ (at' l k).client < c) : r = k := by
  rw [drop_at hk] at hR
  rw [← hR]
  simp only [before, List.takeWhile_cons, h, decide_false, if_false, List.length_nil]
  rfl
theorem bef_e {l : List Sess} {c : Int} {k r : Nat} (hk : l.length ≤ k) (hR : k + before (l.drop k) c = r) : r = k := by
  rw [List.drop_of_length_le hk] at hR
  rw [← hR]; rfl
theorem bef_le (l : List Sess) (c : Int) : before l c ≤ l.length := by
  unfold before
  exact (List.takeWhile_sublist _).length_le
theorem bef_had {m : Mach} {c : Int} (h : (sessOf m c).isSome = true) : before m.sess c < m.sess.length := by
  unfold sessOf at h
  rw [List.find?_isSome] at h
  obtain ⟨s, hs, hc⟩ := h
  have hc : s.client = c := by simpa using hc
  unfold before
  have hle : (m.sess.takeWhile fun s => decide (s.client < c)).length ≤ m.sess.length := (List.takeWhile_sublist _).length_le
  rcases Nat.lt_or_ge (m.sess.takeWhile fun s => decide (s.client < c)).length m.sess.length with h | h
  · exact h
  · have e : (m.sess.takeWhile fun s => decide (s.client < c)) = m.sess := (List.takeWhile_sublist _).eq_of_length (by omega)
    rw [← e] at hs
    have := List.all_eq_true.1 (List.all_takeWhile (p := fun s => decide (s.client < c)) (l := m.sess)) s hs
    simp [hc] at this
theorem sessV_y {m : Mach} {c : Int} (h : (sessOf m c).isSome = true) : sessOf m c = some (sessV m c) := by
  unfold sessV
  cases hs : sessOf m c with
  | none => simp [hs] at h
  | some s => rfl
theorem sess_no {m : Mach} {c : Int} (h : (sessOf m c).isSome = false) : sessOf m c = none := by
  cases hs : sessOf m c with
  | none => rfl
  | some s => simp [hs] at h
theorem ap_v {m : Mach} {o : ROp} (h : validMach m = false) : applyOp m o = (m, noRes, false) := by simp [applyOp, h]
theorem ap_o {m : Mach} {o : ROp} (h : validOp o = false) : applyOp m o = (m, noRes, false) := by simp [applyOp, h]
theorem ap_lt {m : Mach} {o : ROp} (hv : validMach m = true) (ho : validOp o = true) (hs : (sessOf m o.client).isSome = true) (h : o.seq < (sessV m o.client).seq) : applyOp m o = (m, noRes, false) := by
  simp [applyOp, hv, ho, sessV_y hs, h]
theorem ap_eq {m : Mach} {o : ROp} (hv : validMach m = true) (ho : validOp o = true) (hs : (sessOf m o.client).isSome = true) (h : (sessV m o.client).seq = o.seq) : applyOp m o = (m, (sessV m o.client).res, true) := by
  simp [applyOp, hv, ho, sessV_y hs, h]
def stepO (m : Mach) (o : ROp) : List Int := if (o.kind == 1 || at' m.objs o.obj.toNat == o.old) then m.objs.set o.obj.toNat o.val else m.objs
theorem ap_had {m : Mach} {o : ROp} {k : Nat} (hv : validMach m = true) (ho : validOp o = true) (hs : (sessOf m o.client).isSome = true) (h1 : ¬ o.seq < (sessV m o.client).seq) (h2 : ¬ (sessV m o.client).seq = o.seq) (hk : before m.sess o.client = k) :
    applyOp m o = (⟨stepO m o, m.sess.set k ⟨o.client, o.seq, ⟨o.kind == 1 || at' m.objs o.obj.toNat == o.old, at' m.objs o.obj.toNat⟩⟩⟩, ⟨o.kind == 1 || at' m.objs o.obj.toNat == o.old, at' m.objs o.obj.toNat⟩, true) := by
  subst hk
  simp [applyOp, hv, ho, sessV_y hs, h1, h2, Ne.symm h2, stepOp, stepO]
theorem ap_new {m : Mach} {o : ROp} {k : Nat} (hv : validMach m = true) (ho : validOp o = true) (hs : (sessOf m o.client).isSome = false) (hk : before m.sess o.client = k) :
    applyOp m o = (⟨stepO m o, m.sess.take k ++ ⟨o.client, o.seq, ⟨o.kind == 1 || at' m.objs o.obj.toNat == o.old, at' m.objs o.obj.toNat⟩⟩ :: m.sess.drop k⟩, ⟨o.kind == 1 || at' m.objs o.obj.toNat == o.old, at' m.objs o.obj.toNat⟩, true) := by
  subst hk
  simp [applyOp, hv, ho, sess_no hs, stepOp, stepO]
theorem stepO_1 {m : Mach} {o : ROp} (h : o.kind = 1) : stepO m o = m.objs.set o.obj.toNat o.val := by simp [stepO, h]
theorem stepO_2 {m : Mach} {o : ROp} (h : at' m.objs o.obj.toNat = o.old) : stepO m o = m.objs.set o.obj.toNat o.val := by simp [stepO, h]
theorem stepO_3 {m : Mach} {o : ROp} (h : ¬ o.kind = 1) (h2 : ¬ at' m.objs o.obj.toNat = o.old) : stepO m o = m.objs := by simp [stepO, h, h2]
theorem set_split {α : Type} (l : List α) (k : Nat) (x : α) (hk : k < l.length) : l.set k x = l.take k ++ x :: l.drop (k + 1) := by
  rw [List.set_eq_take_append_cons_drop, if_pos hk]
theorem ins_set {α : Type} (l : List α) (k : Nat) (x y : α) (hk : k ≤ l.length) : (l.take k ++ y :: l.drop k).set k x = l.take k ++ x :: l.drop k := by
  have e : (l.take k).length = k := by rw [List.length_take]; omega
  rw [List.set_append_right _ _ (by omega), e, Nat.sub_self]
  rfl
theorem ap_hadT {m : Mach} {o : ROp} {k : Nat} (hv : validMach m = true) (ho : validOp o = true) (hs : (sessOf m o.client).isSome = true) (h1 : ¬ o.seq < (sessV m o.client).seq) (h2 : ¬ (sessV m o.client).seq = o.seq) (hk : before m.sess o.client = k) (hd : o.kind = 1 ∨ at' m.objs o.obj.toNat = o.old) :
    applyOp m o = (⟨m.objs.set o.obj.toNat o.val, m.sess.set k ⟨o.client, o.seq, ⟨true, at' m.objs o.obj.toNat⟩⟩⟩, ⟨true, at' m.objs o.obj.toNat⟩, true) := by
  rw [ap_had hv ho hs h1 h2 hk]
  rcases hd with h | h
  · rw [stepO_1 h]; simp [h]
  · rw [stepO_2 h]; simp [h]
theorem ap_hadF {m : Mach} {o : ROp} {k : Nat} (hv : validMach m = true) (ho : validOp o = true) (hs : (sessOf m o.client).isSome = true) (h1 : ¬ o.seq < (sessV m o.client).seq) (h2 : ¬ (sessV m o.client).seq = o.seq) (hk : before m.sess o.client = k) (hd : ¬ o.kind = 1) (hd2 : ¬ at' m.objs o.obj.toNat = o.old) :
    applyOp m o = (⟨m.objs, m.sess.set k ⟨o.client, o.seq, ⟨false, at' m.objs o.obj.toNat⟩⟩⟩, ⟨false, at' m.objs o.obj.toNat⟩, true) := by
  have e : (o.kind == 1 || at' m.objs o.obj.toNat == o.old) = false := by simp [hd, hd2]
  rw [ap_had hv ho hs h1 h2 hk, stepO_3 hd hd2, e]
theorem ap_newT {m : Mach} {o : ROp} {k : Nat} (hv : validMach m = true) (ho : validOp o = true) (hs : (sessOf m o.client).isSome = false) (hk : before m.sess o.client = k) (hd : o.kind = 1 ∨ at' m.objs o.obj.toNat = o.old) :
    applyOp m o = (⟨m.objs.set o.obj.toNat o.val, m.sess.take k ++ ⟨o.client, o.seq, ⟨true, at' m.objs o.obj.toNat⟩⟩ :: m.sess.drop k⟩, ⟨true, at' m.objs o.obj.toNat⟩, true) := by
  rw [ap_new hv ho hs hk]
  rcases hd with h | h
  · rw [stepO_1 h]; simp [h]
  · rw [stepO_2 h]; simp [h]
theorem ap_newF {m : Mach} {o : ROp} {k : Nat} (hv : validMach m = true) (ho : validOp o = true) (hs : (sessOf m o.client).isSome = false) (hk : before m.sess o.client = k) (hd : ¬ o.kind = 1) (hd2 : ¬ at' m.objs o.obj.toNat = o.old) :
    applyOp m o = (⟨m.objs, m.sess.take k ++ ⟨o.client, o.seq, ⟨false, at' m.objs o.obj.toNat⟩⟩ :: m.sess.drop k⟩, ⟨false, at' m.objs o.obj.toNat⟩, true) := by
  have e : (o.kind == 1 || at' m.objs o.obj.toNat == o.old) = false := by simp [hd, hd2]
  rw [ap_new hv ho hs hk, stepO_3 hd hd2, e]
theorem fin_hadS (l : List Sess) (k : Nat) (x : Sess) (hk : k < l.length) : (l.take k).map eSess ++ [eSess x] ++ (List.take ((l.length : Int) - ((k : Int) + 1)).toNat (List.drop ((k : Int) + 1).toNat l)).map eSess = (l.set k x).map eSess := by
  rw [set_split l k x hk, show ((k : Int) + 1).toNat = k + 1 by omega, List.take_of_length_le (l := l.drop (k + 1)) (by rw [List.length_drop]; omega)]
  simp
theorem fin_newS (l : List Sess) (k : Nat) (x : Sess) : (l.take k).map eSess ++ [eSess x] ++ (l.drop k).map eSess = (l.take k ++ x :: l.drop k).map eSess := by simp
theorem fin_hadI (l : List Sess) (k : Nat) (x : Sess) : (l.map eSess).set k (eSess x) = (l.set k x).map eSess := List.map_set.symm
theorem fin_newI (l : List Sess) (k : Nat) (x y : Sess) (hk : k ≤ l.length) : ((l.take k ++ y :: l.drop k).map eSess).set k (eSess x) = (l.take k ++ x :: l.drop k).map eSess := by
  rw [← List.map_set, ins_set l k x y hk]
theorem ap_len (m : Mach) (o : ROp) : (applyOp m o).1.objs.length = m.objs.length ∧ (applyOp m o).1.sess.length ≤ m.sess.length + 1 := by
  unfold applyOp stepOp
  split
  · split
    · split
      · exact ⟨rfl, by simp⟩
      · split
        · exact ⟨rfl, by simp⟩
        · refine ⟨?_, by simp⟩
          dsimp only; split <;> simp
    · refine ⟨?_, ?_⟩
      · dsimp only; split <;> simp
      · have := bef_le m.sess o.client
        simp only [if_false, Bool.false_eq_true, List.length_append, List.length_take, List.length_cons, List.length_drop]
        omega
  · exact ⟨rfl, by simp⟩
structure RepI (l : List LEnt) (i : Nat) (m : Mach) : Prop where
  e : m = replayM (l.take i)
  o : m.objs.length = 3
  s : m.sess.length ≤ i
theorem RepI.start (l : List LEnt) : RepI l 0 newMach := ⟨rfl, rfl, Nat.le_refl _⟩
theorem RepI.b {l : List LEnt} {i : Nat} {m : Mach} (h : RepI l i m) (hi : i ≤ 1048576) : MachB m := ⟨by rw [h.o]; decide, Nat.le_trans h.s hi⟩
theorem RepI.next {l : List LEnt} {i : Nat} {m : Mach} (h : RepI l i m) (hi : i < l.length) : RepI l (i + 1) (applyOp m (at' l i).op).1 := by
  have q := ap_len m (at' l i).op
  refine ⟨?_, by rw [q.1, h.o], by have := h.s; omega⟩
  rw [h.e, E.take_at hi]
  simp only [replayM, List.foldl_append, List.foldl_cons, List.foldl_nil]
theorem RepI.fin {l : List LEnt} {i : Nat} {m : Mach} (h : RepI l i m) (hi : l.length ≤ i) (hv : isLog l = true) : replay l = (m, true) := by
  rw [replay, if_pos hv, h.e, List.take_of_length_le hi]
theorem replay_n {l : List LEnt} (hv : isLog l = false) : replay l = (noMach, false) := by simp [replay, hv]
theorem replayM_len (l : List LEnt) : (replayM l).objs.length = 3 ∧ (replayM l).sess.length ≤ l.length := by
  have go : ∀ (l : List LEnt) (m : Mach), (l.foldl (fun m e => (applyOp m e.op).1) m).objs.length = m.objs.length ∧ (l.foldl (fun m e => (applyOp m e.op).1) m).sess.length ≤ m.sess.length + l.length := by
    intro l
    induction l with
    | nil => intro m; exact ⟨rfl, by simp⟩
    | cons e es ih =>
      intro m
      have q := ap_len m e.op
      have q2 := ih (applyOp m e.op).1
      simp only [List.foldl_cons, List.length_cons]
      exact ⟨by rw [q2.1, q.1], by omega⟩
  have q := go l newMach
  have e : newMach.sess.length = 0 := rfl
  refine ⟨q.1, ?_⟩
  unfold replayM
  omega
theorem replay_B (l : List LEnt) (h : l.length ≤ 1048576) : MachB (replay l).1 := by
  have q := replayM_len l
  unfold replay
  split
  · exact ⟨by rw [q.1]; decide, by dsimp only; omega⟩
  · exact ⟨by decide, by decide⟩
end
end Go.Abs

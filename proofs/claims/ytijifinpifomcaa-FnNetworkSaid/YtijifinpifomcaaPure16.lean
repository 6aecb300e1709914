/- More plain facts. No condition. -/
import Derived.Test.YtijifinpifomcaaPure15
set_option linter.unusedVariables false
set_option linter.unusedSimpArgs false
set_option linter.unusedVariables false
set_option linter.unusedSimpArgs false
namespace Go.Abs
noncomputable section
structure InstI (o : Clu) (x : Conf) (l : List LEnt) (ms : List Int) (i : Nat) (s : List Srv) : Prop where
  len : s.length = o.srvs.length
  b : ∀ y ∈ s, SrvB y
  run : instAll x l (ms.drop i) (withS o s) = instAll x l ms o
theorem InstI.next {o : Clu} {x : Conf} {l : List LEnt} {ms : List Int} {i : Nat} {s : List Srv} (h : InstI o x l ms i s) (hi : i < ms.length) (hx : ConfB x) (hl : l.length ≤ 1048576) : InstI o x l ms (i + 1) (s.set (at' ms i).toNat (install (at' s (at' ms i).toNat) x (at' ms i) l).1) := by
  refine ⟨by rw [List.length_set]; exact h.len, all_set h.b ((srvB_at h.b _).inst hx hl), ?_⟩
  have hR := h.run
  rw [drop_at hi] at hR
  simp only [instAll, setSrv_with] at hR
  exact hR
structure ActB (c : Clu) : Prop where
  v : validClu c = true
  ch : (lastChosen c.mast).2 = true
  lt : c.mast.act < (lastChosen c.mast).1.epoch
structure ActG (c : Clu) : Prop extends ActB c where
  mw : mastersWork c = true
  up : (at' c.srvs (lastChosen c.mast).1.primary.toNat).up = true
  sd : at' c.sides (lastChosen c.mast).1.primary.toNat = 0
  lo : leaseOver c.lse c.now = true
theorem pushTo_len (c : Clu) (id m : Int) : (pushTo c id m).1.srvs.length = c.srvs.length := by
  unfold pushTo; split
  · simp [setSrv]
  · rfl
theorem pushTo_log (c : Clu) (id m : Int) : (at' (pushTo c id m).1.srvs id.toNat).log = (at' c.srvs id.toNat).log := by
  unfold pushTo; split
  · rename_i h
    have q := primAt_of h.1
    have q0 := hasSrv_of q.1
    have r := (primNow_of q.2).2.2.1
    have hm := role_in h.2.1
    simp only [setSrv]
    by_cases e : m = id
    · subst e
      have r' : roleOf (srvAt c m).conf m = 1 := r
      rw [at_set_eq (by omega), if_neg (by rw [r']; decide)]
      rfl
    · rw [at_set_ne (by omega)]
  · rfl
structure PushI (c : Clu) (id : Int) (ms : List Int) (i : Nat) (y : Clu) (a : Bool) : Prop where
  b : CluB y
  len : y.srvs.length = c.srvs.length
  log : (at' y.srvs id.toNat).log = (at' c.srvs id.toNat).log
  run : pushAll id (ms.drop i) (y, a) = pushAll id ms (c, true)
theorem PushI.next {c y : Clu} {id : Int} {ms : List Int} {i : Nat} {a : Bool} (h : PushI c id ms i y a) (hi : i < ms.length) : PushI c id ms (i + 1) (pushTo y id (at' ms i)).1 (a && (pushTo y id (at' ms i)).2) := by
  refine ⟨pushTo_B h.b, by rw [pushTo_len]; exact h.len, by rw [pushTo_log]; exact h.log, ?_⟩
  have hR := h.run
  rw [drop_at hi] at hR
  simp only [pushAll] at hR
  exact hR
structure ComI (n : Int) (o : Clu) (ms : List Int) (i : Nat) (s : List Srv) : Prop where
  len : s.length = o.srvs.length
  b : ∀ y ∈ s, SrvB y
  log : ∀ j, (at' s j).log = (at' o.srvs j).log
  run : commitAll n (ms.drop i) (withS o s) = commitAll n ms o
theorem ComI.next {n : Int} {o : Clu} {ms : List Int} {i : Nat} {s : List Srv} (h : ComI n o ms i s) (hi : i < ms.length) : ComI n o ms (i + 1) (s.set (at' ms i).toNat (setCommit (at' s (at' ms i).toNat) n)) := by
  refine ⟨by rw [List.length_set]; exact h.len, all_set h.b ?_, fun j => ?_, ?_⟩
  · have := srvB_at h.b (at' ms i).toNat
    exact ⟨this.conf, this.log, this.learned⟩
  · by_cases e : (at' ms i).toNat = j
    · subst e
      by_cases hl : (at' ms i).toNat < s.length
      · rw [at_set_eq hl]; exact h.log _
      · rw [List.set_eq_of_length_le (by omega)]; exact h.log _
    · rw [at_set_ne e]; exact h.log _
  · have hR := h.run
    rw [drop_at hi] at hR
    simp only [commitAll, setSrv_with] at hR
    exact hR
theorem pushAll_B {id : Int} : ∀ (ms : List Int) (x : Clu × Bool), CluB x.1 → CluB (pushAll id ms x).1
  | [], x, h => h
  | m :: ms, x, h => by simp only [pushAll]; exact pushAll_B ms _ (pushTo_B h)
theorem commitAll_B {n : Int} : ∀ (ms : List Int) (c : Clu), CluB c → CluB (commitAll n ms c)
  | [], c, h => h
  | m :: ms, c, h => by simp only [commitAll]; exact commitAll_B ms _ (setSrv_B h ⟨(h.at _).conf, (h.at _).log, (h.at _).learned⟩)
theorem commitP_B {c : Clu} {id : Int} (h : CluB c) : CluB (commitP c id).1 := by
  unfold commitP
  split
  · dsimp only
    split
    · exact commitAll_B _ _ (pushAll_B _ _ h)
    · exact pushAll_B _ _ h
  · exact h
theorem witIn_no {c : Clu} {id : Int} {w : Srv} {k : Nat} {ss : List Srv} {b R : Option (List LEnt)} (hk : k < ss.length) (hR : witIn c id w k (ss.drop k) b = R) (h : (at' ss k).up = false ∨ sameSide c.sides id k = false ∨ (joinTail (comData (at' ss k) k) w.first w.log).isSome = false) : witIn c id w (k + 1) (ss.drop (k + 1)) b = R := by
  rw [drop_at hk] at hR
  simp only [witIn] at hR
  rw [← hR]
  congr 1
  rcases h with h | h | h
  · rw [if_neg (by simp [h])]
  · rw [if_neg (by simp [h])]
  · split
    · cases e : joinTail (comData (at' ss k) k) w.first w.log with
      | none => rfl
      | some l => rw [e] at h; simp at h
    · rfl
theorem witOut_n {c : Clu} {id e : Int} {ws : List Int} {i : Nat} {b R : Option (List LEnt)} (hi : i < ws.length) (hR : witOut c id e (ws.drop i) b = R) (h : hasEpoch c id (at' ws i) e = false) : witOut c id e (ws.drop (i + 1)) b = R := by
  rw [drop_at hi] at hR
  simp only [witOut] at hR
  rw [if_neg (by simp [h])] at hR
  exact hR
end
end Go.Abs

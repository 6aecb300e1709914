/- More plain facts. No condition. -/
import Derived.Test.YtlpbeejmefhpeaaGreatPure25
set_option linter.unusedVariables false
set_option linter.unusedSimpArgs false
namespace Go.Abs
open Go
noncomputable section
theorem prim_n {c : Clu} {id : Int} (h : primNow (at' c.srvs id.toNat) id = false) : primAt c id = false := by simp [primAt, srvAt, h]
theorem prim_y {c : Clu} {id : Int} (h : hasSrv c id = true) (h2 : primNow (at' c.srvs id.toNat) id = true) : primAt c id = true := by simp [primAt, srvAt, h, h2]
theorem hs_v {c : Clu} {id : Int} (h : validClu c = false) : hasSrv c id = false := by simp [hasSrv, h]
theorem hs_i {c : Clu} {id : Int} (h : inR id 0 4 = false) : hasSrv c id = false := by simp [hasSrv, h]
theorem hs_y {c : Clu} {id : Int} (h : validClu c = true) (h2 : inR id 0 4 = true) : hasSrv c id = true := by simp [hasSrv, h, h2]
theorem lr_u {c : Clu} {id o : Int} (h : ¬ upCode c id = 0) : leaseRead c id o = rep0 (upCode c id) := by simp [leaseRead, h]
theorem lr_o {c : Clu} {id o : Int} (h : upCode c id = 0) (h2 : inR o 0 2 = false) : leaseRead c id o = rep0 1 := by simp [leaseRead, h, h2]
theorem lr_p {c : Clu} {id o : Int} (h : upCode c id = 0) (h2 : inR o 0 2 = true) (h3 : primAt c id = false) : leaseRead c id o = rep0 3 := by simp [leaseRead, h, h2, h3]
theorem lr_c {c : Clu} {id o : Int} (h : upCode c id = 0) (h2 : inR o 0 2 = true) (h3 : primAt c id = true) (h4 : canRead c id = false) : leaseRead c id o = rep0 7 := by simp [leaseRead, h, h2, h3, h4]
theorem lr_y {c : Clu} {id o : Int} (h : upCode c id = 0) (h2 : inR o 0 2 = true) (h3 : primAt c id = true) (h4 : canRead c id = true) : leaseRead c id o = readFrom (at' c.srvs id.toNat) o := by simp [leaseRead, srvAt, h, h2, h3, h4]
theorem br_u {c : Clu} {id o l : Int} (h : ¬ upCode c id = 0) : backupRead c id o l = rep0 (upCode c id) := by simp [backupRead, h]
theorem br_o {c : Clu} {id o l : Int} (h : upCode c id = 0) (h2 : inR o 0 2 = false ∨ inR l 0 16 = false) : backupRead c id o l = rep0 1 := by
  unfold backupRead; rw [if_neg (by simp [h]), if_pos h2]
theorem br_p {c : Clu} {id o l : Int} (h : upCode c id = 0) (h2 : inR o 0 2 = true) (h3 : inR l 0 16 = true) (h4 : isRep (at' c.srvs id.toNat) id = false) : backupRead c id o l = rep0 3 := by simp [backupRead, srvAt, h, h2, h3, h4]
theorem br_s {c : Clu} {id o l : Int} (h : upCode c id = 0) (h2 : inR o 0 2 = true) (h3 : inR l 0 16 = true) (h4 : isRep (at' c.srvs id.toNat) id = true) (h5 : (at' c.srvs id.toNat).commit < l) : backupRead c id o l = rep0 11 := by simp [backupRead, srvAt, h, h2, h3, h4, h5]
theorem br_y {c : Clu} {id o l : Int} (h : upCode c id = 0) (h2 : inR o 0 2 = true) (h3 : inR l 0 16 = true) (h4 : isRep (at' c.srvs id.toNat) id = true) (h5 : ¬ (at' c.srvs id.toNat).commit < l) : backupRead c id o l = readFrom (at' c.srvs id.toNat) o := by simp [backupRead, srvAt, h, h2, h3, h4, h5]
def opB (x y : ROp) : Bool := x.client == y.client && (x.seq == y.seq && (x.kind == y.kind && (x.obj == y.obj && (x.old == y.old && x.val == y.val))))
theorem opB_eq (x y : ROp) : opB x y = decide (x = y) := by
  rw [Bool.eq_iff_iff]
  cases x; cases y
  simp [opB]
theorem ao_1 {c : Clu} {id : Int} {o : ROp} (h : hasSrv c id = false) : appendOn c id o = (c, 1) := by simp [appendOn, h]
theorem ao_1o {c : Clu} {id : Int} {o : ROp} (h : validOp o = false) : appendOn c id o = (c, 1) := by simp [appendOn, h]
theorem ao_2 {c : Clu} {id : Int} {o : ROp} (h : hasSrv c id = true) (ho : validOp o = true) (hu : (at' c.srvs id.toNat).up = false) : appendOn c id o = (c, 2) := by simp [appendOn, srvAt, h, ho, hu]
theorem ao_3 {c : Clu} {id : Int} {o : ROp} (h : hasSrv c id = true) (ho : validOp o = true) (hu : (at' c.srvs id.toNat).up = true) (hp : primAt c id = false) : appendOn c id o = (c, 3) := by
  have q : primNow (at' c.srvs id.toNat) id = false := by simpa [primAt, srvAt, h] using hp
  simp [appendOn, srvAt, h, ho, hu, q]
section
variable {c : Clu} {id : Int} {o : ROp} (hp : primAt c id = true) (ho : validOp o = true)
include hp ho
theorem ao_go : appendOn c id o = (if 0 ≤ findOp (at' c.srvs id.toNat).log o.client o.seq then (c, if (at' (at' c.srvs id.toNat).log (findOp (at' c.srvs id.toNat).log o.client o.seq).toNat).op = o then 0 else 11)
    else if (applyOp (replay (at' c.srvs id.toNat).log).1 o).2.2 then
      if isNew o = true ∧ groupFmt c id < 2 then (c, 6) else if ((at' c.srvs id.toNat).log.length : Int) = 16 then (c, 5)
      else (setSrv c id (setLog (at' c.srvs id.toNat) ((at' c.srvs id.toNat).log ++ [⟨(at' c.srvs id.toNat).epoch, o⟩])), 0)
    else (c, 11)) := by
  have q := primAt_of hp
  have q1 := primNow_of q.2
  unfold appendOn
  rw [if_pos (by rw [q.1, ho]; rfl), if_pos (show (srvAt c id).up = true from q1.2.1), if_pos (show primNow (srvAt c id) id = true from q.2)]
  rfl
theorem ao_s (h : 0 ≤ findOp (at' c.srvs id.toNat).log o.client o.seq) (hn : opB (at' (at' c.srvs id.toNat).log (findOp (at' c.srvs id.toNat).log o.client o.seq).toNat).op o = false) : appendOn c id o = (c, 11) := by
  rw [ao_go hp ho, if_pos h, if_neg (by rw [opB_eq] at hn; simpa using hn)]
theorem ao_0 (h : 0 ≤ findOp (at' c.srvs id.toNat).log o.client o.seq) (hn : opB (at' (at' c.srvs id.toNat).log (findOp (at' c.srvs id.toNat).log o.client o.seq).toNat).op o = true) : appendOn c id o = (c, 0) := by
  rw [ao_go hp ho, if_pos h, if_pos (by rw [opB_eq] at hn; simpa using hn)]
theorem ao_f (h : ¬ 0 ≤ findOp (at' c.srvs id.toNat).log o.client o.seq) (h2 : (applyOp (replay (at' c.srvs id.toNat).log).1 o).2.2 = false) : appendOn c id o = (c, 11) := by
  rw [ao_go hp ho, if_neg h, if_neg (by simp [h2])]
theorem ao_6 (h : ¬ 0 ≤ findOp (at' c.srvs id.toNat).log o.client o.seq) (h2 : (applyOp (replay (at' c.srvs id.toNat).log).1 o).2.2 = true) (h3 : isNew o = true) (h4 : groupFmt c id < 2) : appendOn c id o = (c, 6) := by
  rw [ao_go hp ho, if_neg h, if_pos h2, if_pos ⟨h3, h4⟩]
theorem ao_5 (h : ¬ 0 ≤ findOp (at' c.srvs id.toNat).log o.client o.seq) (h2 : (applyOp (replay (at' c.srvs id.toNat).log).1 o).2.2 = true) (h3 : isNew o = false ∨ ¬ groupFmt c id < 2) (h4 : ((at' c.srvs id.toNat).log.length : Int) = 16) : appendOn c id o = (c, 5) := by
  rw [ao_go hp ho, if_neg h, if_pos h2, if_neg (by rintro ⟨q1, q2⟩; rcases h3 with h3 | h3; simp [h3] at q1; exact h3 q2), if_pos h4]
theorem ao_y (h : ¬ 0 ≤ findOp (at' c.srvs id.toNat).log o.client o.seq) (h2 : (applyOp (replay (at' c.srvs id.toNat).log).1 o).2.2 = true) (h3 : isNew o = false ∨ ¬ groupFmt c id < 2) (h4 : ¬ ((at' c.srvs id.toNat).log.length : Int) = 16) : appendOn c id o = (setSrv c id (setLog (at' c.srvs id.toNat) ((at' c.srvs id.toNat).log ++ [⟨(at' c.srvs id.toNat).epoch, o⟩])), 0) := by
  rw [ao_go hp ho, if_neg h, if_pos h2, if_neg (by rintro ⟨q1, q2⟩; rcases h3 with h3 | h3; simp [h3] at q1; exact h3 q2), if_neg h4]
end
theorem ao_of {c : Clu} {id : Int} {o : ROp} (h : (appendOn c id o).2 = 0) : primAt c id = true ∧ validOp o = true := by
  unfold appendOn at h
  split at h
  · rename_i h1
    simp only [Bool.and_eq_true] at h1
    split at h
    · split at h
      · rename_i h3
        exact ⟨by simp [primAt, h1.1, h3], h1.2⟩
      · simp at h
    · simp at h
  · simp at h
theorem ao_cases (c : Clu) (id : Int) (o : ROp) : (appendOn c id o).1 = c ∨ (primAt c id = true ∧ (at' c.srvs id.toNat).log.length ≠ 16 ∧ (appendOn c id o).1 = setSrv c id (setLog (at' c.srvs id.toNat) ((at' c.srvs id.toNat).log ++ [⟨(at' c.srvs id.toNat).epoch, o⟩]))) := by
  by_cases hp : primAt c id = true
  · by_cases ho : validOp o = true
    · rw [ao_go hp ho]
      split
      · exact .inl rfl
      · split
        · split
          · exact .inl rfl
          · split
            · exact .inl rfl
            · rename_i h; exact .inr ⟨hp, by omega, rfl⟩
        · exact .inl rfl
    · rw [ao_1o (by simpa using ho)]; exact .inl rfl
  · left
    unfold appendOn
    split
    · rename_i h1
      simp only [Bool.and_eq_true] at h1
      split
      · split
        · rename_i h3; exact absurd (by simp [primAt, h1.1, h3]) hp
        · rfl
      · rfl
    · rfl
theorem appendOn_B {c : Clu} {id : Int} {o : ROp} (h : CluB c) : CluB (appendOn c id o).1 := by
  rcases ao_cases c id o with q | ⟨hp, _, q⟩ <;> rw [q]
  · exact h
  · have q2 := primAt_log hp
    refine setSrv_B h ⟨(h.at _).conf, ?_, (h.at _).learned⟩
    simp only [setLog, List.length_append, List.length_cons, List.length_nil]
    omega
theorem appendOn_len (c : Clu) (id : Int) (o : ROp) : (appendOn c id o).1.srvs.length = c.srvs.length := by
  rcases ao_cases c id o with q | ⟨hp, _, q⟩ <;> rw [q]
  simp [setSrv]
theorem commitAll_len (n : Int) : ∀ (ms : List Int) (c : Clu), (commitAll n ms c).srvs.length = c.srvs.length
  | [], c => rfl
  | m :: ms, c => by simp only [commitAll]; rw [commitAll_len n ms]; simp [setSrv]
theorem pushAll_len (id : Int) : ∀ (ms : List Int) (x : Clu × Bool), (pushAll id ms x).1.srvs.length = x.1.srvs.length
  | [], x => rfl
  | m :: ms, x => by simp only [pushAll]; rw [pushAll_len id ms]; exact pushTo_len _ _ _
theorem commitP_len (c : Clu) (id : Int) : (commitP c id).1.srvs.length = c.srvs.length := by
  unfold commitP
  split
  · dsimp only
    split
    · dsimp only; rw [commitAll_len, pushAll_len]
    · dsimp only; rw [pushAll_len]
  · rfl
theorem co_id {c : Clu} {id : Int} {o : ROp} (h : (appendOn c id o).2 = 0) : 0 ≤ id ∧ id ≤ 4 ∧ (appendOn c id o).1.srvs.length = 5 ∧ (commitP (appendOn c id o).1 id).1.srvs.length = 5 := by
  have q := hasSrv_of (primAt_of (ao_of h).1).1
  exact ⟨q.2.2.1, q.2.2.2.1, by rw [appendOn_len]; exact q.2.1, by rw [commitP_len, appendOn_len]; exact q.2.1⟩
theorem co_n {c : Clu} {id : Int} {o : ROp} (h : ¬ (appendOn c id o).2 = 0) : clientOp c id o = ((appendOn c id o).1, rep0 (appendOn c id o).2) := by simp [clientOp, h]
theorem co_p {c : Clu} {id : Int} {o : ROp} (h : (appendOn c id o).2 = 0) (h2 : (at' (appendOn c id o).1.srvs id.toNat).commit ≤ findOp (at' (appendOn c id o).1.srvs id.toNat).log o.client o.seq) (h3 : (commitP (appendOn c id o).1 id).2 = false) : clientOp c id o = ((commitP (appendOn c id o).1 id).1, rep0 4) := by
  unfold clientOp; simp [srvAt, h, h2, h3]
theorem co_c {c : Clu} {id : Int} {o : ROp} (h : (appendOn c id o).2 = 0) (h2 : (at' (appendOn c id o).1.srvs id.toNat).commit ≤ findOp (at' (appendOn c id o).1.srvs id.toNat).log o.client o.seq) (h3 : (commitP (appendOn c id o).1 id).2 = true) : clientOp c id o = ((commitP (appendOn c id o).1 id).1, ⟨0, (resAt (at' (commitP (appendOn c id o).1 id).1.srvs id.toNat).log (findOp (at' (appendOn c id o).1.srvs id.toNat).log o.client o.seq)).1, findOp (at' (appendOn c id o).1.srvs id.toNat).log o.client o.seq⟩) := by
  unfold clientOp; simp [srvAt, h, h2, h3]
theorem co_y {c : Clu} {id : Int} {o : ROp} (h : (appendOn c id o).2 = 0) (h2 : ¬ (at' (appendOn c id o).1.srvs id.toNat).commit ≤ findOp (at' (appendOn c id o).1.srvs id.toNat).log o.client o.seq) : clientOp c id o = ((appendOn c id o).1, ⟨0, (resAt (at' (appendOn c id o).1.srvs id.toNat).log (findOp (at' (appendOn c id o).1.srvs id.toNat).log o.client o.seq)).1, findOp (at' (appendOn c id o).1.srvs id.toNat).log o.client o.seq⟩) := by
  unfold clientOp; simp [srvAt, h, h2]
theorem clientOp_B {c : Clu} {id : Int} {o : ROp} (h : CluB c) : CluB (clientOp c id o).1 := by
  by_cases h1 : (appendOn c id o).2 = 0
  · by_cases h2 : (at' (appendOn c id o).1.srvs id.toNat).commit ≤ findOp (at' (appendOn c id o).1.srvs id.toNat).log o.client o.seq
    · cases h3 : (commitP (appendOn c id o).1 id).2 with
      | false => rw [co_p h1 h2 h3]; exact commitP_B (appendOn_B h)
      | true => rw [co_c h1 h2 h3]; exact commitP_B (appendOn_B h)
    · rw [co_y h1 h2]; exact appendOn_B h
  · rw [co_n h1]; exact appendOn_B h
structure RetI (c : Clu) (ids : List Int) (o : ROp) (i : Nat) (x : Clu) (r : Rep) : Prop where
  b : CluB x
  e : retryGo o ((ids.take 10).drop i) (x, r) = retryOp c ids o
theorem RetI.start {c : Clu} {ids : List Int} {o : ROp} (h : CluB c) : RetI c ids o 0 c (rep0 1) := ⟨h, rfl⟩
theorem ret_at {ids : List Int} {i : Nat} (hi : i < ids.length) (h10 : i < 10) : (ids.take 10).drop i = at' ids i :: (ids.take 10).drop (i + 1) := by
  have hl : i < (ids.take 10).length := by rw [List.length_take]; omega
  rw [drop_at hl]
  congr 1
  unfold at'
  rw [List.getD_eq_getElem?_getD, List.getD_eq_getElem?_getD, List.getElem?_take_of_lt h10]
theorem RetI.next {c x : Clu} {ids : List Int} {o : ROp} {i : Nat} {r : Rep} (h : RetI c ids o i x r) (hi : i < ids.length) (h10 : i < 10) (hn : ¬ (clientOp x (at' ids i) o).2.code = 0) : RetI c ids o (i + 1) (clientOp x (at' ids i) o).1 (clientOp x (at' ids i) o).2 := by
  have q := h.e
  rw [ret_at hi h10] at q
  simp only [retryGo, if_neg hn] at q
  exact ⟨clientOp_B h.b, q⟩
theorem RetI.hit {c x : Clu} {ids : List Int} {o : ROp} {i : Nat} {r : Rep} (h : RetI c ids o i x r) (hi : i < ids.length) (h10 : i < 10) (hn : (clientOp x (at' ids i) o).2.code = 0) : retryOp c ids o = clientOp x (at' ids i) o := by
  have q := h.e
  rw [ret_at hi h10] at q
  simp only [retryGo, if_pos hn] at q
  exact q.symm
theorem RetI.fin {c x : Clu} {ids : List Int} {o : ROp} {i : Nat} {r : Rep} (h : RetI c ids o i x r) (hi : ids.length ≤ i ∨ 10 ≤ i) : retryOp c ids o = (x, r) := by
  have q := h.e
  rw [List.drop_of_length_le (by rw [List.length_take]; omega)] at q
  exact q.symm
abbrev tenI (ids : List Int) : List Int := List.take (if (10 : Int) < (ids.length : Int) then 10 else (ids.length : Int)).toNat ids
theorem tk_eq (ids : List Int) : tenI ids = ids.take 10 := by
  unfold tenI
  split
  · rfl
  · rw [List.take_of_length_le (by omega), List.take_of_length_le (by omega)]
theorem tk_lt {ids : List Int} {i : Nat} (h : (i : Int) < ((tenI ids).length : Int)) : i < ids.length ∧ i < 10 := by
  rw [tk_eq, List.length_take] at h; omega
theorem tk_ge {ids : List Int} {i : Nat} (h : ((tenI ids).length : Int) ≤ (i : Int)) : ids.length ≤ i ∨ 10 ≤ i := by
  rw [tk_eq, List.length_take] at h; omega
theorem tk_at {ids : List Int} {i : Nat} (h : (i : Int) < ((tenI ids).length : Int)) : at' (tenI ids) i = at' ids i := by
  have q := tk_lt h
  rw [tk_eq]
  unfold at'
  rw [List.getD_eq_getElem?_getD, List.getD_eq_getElem?_getD, List.getElem?_take_of_lt q.2]
theorem RetI.nextT {c x : Clu} {ids : List Int} {o : ROp} {i : Nat} {r : Rep} (h : RetI c ids o i x r) (hi : (i : Int) < ((tenI ids).length : Int)) (hn : ¬ (clientOp x (at' (tenI ids) i) o).2.code = 0) : RetI c ids o (i + 1) (clientOp x (at' (tenI ids) i) o).1 (clientOp x (at' (tenI ids) i) o).2 := by
  rw [tk_at hi] at hn ⊢
  exact h.next (tk_lt hi).1 (tk_lt hi).2 hn
theorem RetI.hitT {c x : Clu} {ids : List Int} {o : ROp} {i : Nat} {r : Rep} (h : RetI c ids o i x r) (hi : (i : Int) < ((tenI ids).length : Int)) (hn : (clientOp x (at' (tenI ids) i) o).2.code = 0) : retryOp c ids o = clientOp x (at' (tenI ids) i) o := by
  rw [tk_at hi] at hn ⊢
  exact h.hit (tk_lt hi).1 (tk_lt hi).2 hn
theorem retryGo_B {o : ROp} : ∀ (ids : List Int) (x : Clu × Rep), CluB x.1 → CluB (retryGo o ids x).1
  | [], x, h => h
  | id :: ids, x, h => by
    simp only [retryGo]
    split
    · exact clientOp_B h
    · exact retryGo_B ids _ (clientOp_B h)
theorem retryOp_B {c : Clu} {ids : List Int} {o : ROp} (h : CluB c) : CluB (retryOp c ids o).1 := retryGo_B _ _ h
end
end Go.Abs

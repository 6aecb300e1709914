/- More contracts. No condition. -/
import Derived.Test.YtolmelplkiefjaaFns
set_option linter.unusedVariables false
set_option linter.unusedSimpArgs false
set_option linter.unnecessarySimpa false
set_option linter.constructorNameAsVariable false
set_option maxHeartbeats 4000000
namespace Go.Abs
open Go

attribute [local go_sem ↓] E.wq_ret E.wq_req E.wq_bad E.wq_call E.wq_get E.wq_getO E.wq_getOs E.wq_getPs E.wq_fresh E.wq_anyNil E.wq_getR0 E.wq_getR E.wq_ixM E.wq_n E.wq_g E.wq_gn E.ev_skip E.ev_region E.ev_draw E.ev_seq E.ev_cond E.ev_block E.ev_exit E.ev_ret E.sq_n E.sq_e E.sq_r E.bl_n E.bl_e E.bl_r E.lp_n E.lp_e E.lp_r E.fk_n E.fk_r E.q_move E.q_assign E.q_pick E.q_bin E.q_binw E.q_un E.q_alloc E.q_box E.q_build E.q_buildS E.q_makeS E.q_load E.q_store E.q_nilCheck E.q_slice E.q_fieldAddr E.q_field E.q_indexAddr E.q_extract E.q_makeFunc E.q_call E.q_callT E.q_len E.q_append E.q_min E.q_max E.b_add E.b_sub E.b_mul E.b_eql E.b_neq E.b_lss E.b_leq E.b_gtr E.b_geq E.GO_tmp E.GO_int E.GO_bool E.GO_str E.GO_nil E.GO_func E.GOs_nil E.GOs_cons E.GPs_nil E.GPs_cons E.RW_nil E.RW_cons E.dstAt_0 E.dstAt_s E.keepL_nil E.keepL_s E.keepL_k E.memN_nil E.memN_cons E.memK_nil E.memK_cons ofL_s ofL_sk ofL_ks ofL_k ofL_nil E.CO_tmp E.CO_bool
attribute [local go_sem] E.RM_nil E.RM_cons E.kd_k E.sbr_eq E.s3_nil E.s3_s E.s3_k E.vr_c E.vr_a E.vr_p E.vr_q E.vr_t E.vr_f E.vr_u E.cr_r E.cr_v E.cr_b E.cr_n E.cr_u E.crs_nil E.crs_cons E.renK_nil E.renK_cons keysVs V.keys C.keys keysCs E.RG_nil E.RG_cons E.GV_v E.GB_true E.GB_false E.GX_b E.GG_t E.GG_f E.GG_u E.GU_some E.IX_0 E.IX_s E.CX_s E.FR_none E.EN_e E.GVB_b E.b_boolM E.b_nilM E.b_strM E.b_aggM List.cons_append List.nil_append List.append_nil List.length_cons List.length_nil List.length_map el24 sz3 by3 ag3 ze3 ki3 ki4 ki24 un4 un24 callM argsA argA cellA cellsA capsA capA callable backs backT resVs resV resC tupV lenV intV boolV put ovl getE getO noMd entryL entryKs A.ts entryV entryC entryCs entryCap List.map_cons List.map_nil whole toB toC List.drop_zero List.take_zero List.take_succ_cons List.drop_succ_cons resultsM resultM outM outM1 convs conv finAs finA finT Int.toNat_natCast A.plain T.plain List.isEmpty_nil List.isEmpty_cons Bool.or_true Bool.true_or Bool.and_self List.getElem?_cons_zero List.getElem?_cons_succ Option.bind_some Option.bind_none Option.bind Nat.zero_add Nat.add_zero own_eInt bor_eInt scal_eInt one_eInt E.take_all E.app1 eInt_eq partCells V.cells convsL appendM srcM E.scalEs_nil E.scalEs_cons E.oneEs_nil E.oneEs_cons List.all_cons List.all_nil T.one Bool.and_true gone ownEs ownE ownT borEs borE borT setRow splice List.set_cons_zero List.set_cons_succ optI getOpt sliceM ptrTo app_ofL T.isV Value.oneCell'
attribute [local irreducible] E.GV E.GB E.GX E.GG E.GU E.IX E.CX E.RW E.FR E.EN E.CALL E.GO E.GOs E.GPs E.GVB E.KD E.RM E.RG E.CO E.WQ E.EV E.SQ E.BL E.LP E.FK E.S3 E.RK E.NEXT E.NQ E.INDEP


def mdM : Nat → Nat → Bool := fun f i => if f = 19 then (if i = 0 then true else false) else false
theorem mdM_eq (f i : Nat) : mdM f i = if f = 19 then (if i = 0 then true else false) else false := rfl
theorem moveSide_len (l : List Int) (a b : Int) : (moveSide l a b).1.length = l.length := by unfold moveSide; split <;> simp
theorem masterSide_len (l : List Int) (h : l.length ≤ 1048576) : (masterSide l).length ≤ 1048576 := by
  have : ∀ (l : List Int) (i : Nat), (msGo i l).length ≤ l.length := by
    intro l
    induction l with
    | nil => intro i; simp [msGo]
    | cons x l ih => intro i; have := ih (i + 1); simp only [msGo]; split <;> simp <;> omega
  have := this l 0
  unfold masterSide; split <;> simp; omega
attribute [local go_sem] mdM_eq markI_len held_mark beq_self_eq_true Bool.not_true bne_self_eq_false E.cp_full

theorem drop5 {i : Nat} (h : i < 5) : ([0, 1, 2, 3, 4] : List Int).drop i = (i : Int) :: ([0, 1, 2, 3, 4] : List Int).drop (i + 1) := by
  have : i = 0 ∨ i = 1 ∨ i = 2 ∨ i = 3 ∨ i = 4 := by omega
  rcases this with rfl | rfl | rfl | rfl | rfl <;> rfl
theorem drop5e {i : Nat} (h : 5 ≤ i) : ([0, 1, 2, 3, 4] : List Int).drop i = [] := List.drop_eq_nil_of_le (by simpa using h)
theorem reach_len (l : List Int) (id : Int) : (reach l id).length ≤ 5 := by
  unfold reach
  exact Nat.le_trans (List.length_filter_le _ _) (by simp)

theorem reach_spec (l : List Int) (id : Int) (hl : l.length ≤ 1048576) : Fn Go.Proofs.Try.prog 21 [.c (.s false 1 ((l).map eInt)), .c (.v (vi (id)))] [.c .d, .c .d] [.c (.s true 1 ((reach l id).map eInt))] := by
  refine E.Fn.ev (n := 21) noMd false mix Go.Proofs.Try.func21 rfl (by simp [Go.Proofs.Try.f21]) Go.Proofs.Try.ntmps21 (by simp) (by kernel_rfl) (rs := [.tmp 4]) (tys := [24]) rfl rfl rfl (by simp [resOK, A.ts, ownE, ownT, own_eInt]) ?_
  simp only [go_sem, reduceIte, Nat.reduceEqDiff, reduceCtorEq, Nat.reduceAdd, Nat.reduceMul]
  repeat' (first
    | with_reducible rfl
    | exact trivial
    | simp only [List.cons.injEq, A.c.injEq, A.a.injEq, T.v.injEq, T.s.injEq, Value.bool.injEq, Value.int.injEq, and_true, true_and]
    | (refine E.CALL.use (sameSide_spec _ _ _ hl) ?_ <;> (try simp only [go_sem, reduceIte, Nat.reduceEqDiff, reduceCtorEq, Nat.reduceAdd, Nat.reduceMul]))
    | (refine E.GB.use (fun h => ?_) (fun h => ?_) <;> (simp only [go_sem, reduceIte, Nat.reduceEqDiff, reduceCtorEq, Nat.reduceAdd, Nat.reduceMul, h]) <;> (try simp only [decide_eq_true_eq, decide_eq_false_iff_not, Bool.not_eq_true', Bool.not_eq_false', Bool.not_eq_true, Bool.not_eq_false, beq_iff_eq, beq_eq_false_iff_ne, bne_iff_ne, bne_eq_false_iff_eq, Int.not_lt, Int.not_le, ne_eq] at h))
    | exact E.INDEP.mk (by kernel_rfl)
    | (refine E.NQ.use (fun b hb => ?_); simp only [go_sem, reduceIte, Nat.reduceEqDiff, reduceCtorEq, Nat.reduceAdd, Nat.reduceMul])
    | exact E.RK.mk (by kernel_rfl)
    | (refine E.IX_map ?_ (fun hx => ?_); rotate_left; simp only [go_sem, reduceIte, Nat.reduceEqDiff, reduceCtorEq, Nat.reduceAdd, Nat.reduceMul])
    | (refine E.loopR (ι := Nat × List Int) 3 rfl (fun p => [(.s 6, .v (.c (.v (vi p.1)))), (.s 5, .v (.c (.r (7, 0) 0 [] 0 (p.2).length))), (.k (7, 0), .e ⟨0, 1, (p.2).map eInt⟩)]) [0, 1, 4, 20] [(7, 0)] [] (fun p => 5 - p.1) (fun p => p.1 ≤ 5 ∧ p.2.length ≤ p.1 ∧ p.2 ++ (([0, 1, 2, 3, 4] : List Int).drop p.1).filter (fun x => sameSide l id x) = reach l id) mix (by kernel_rfl) (0, []) ?_ ?_ (fun ⟨i, out⟩ ⟨hi, ho, hR⟩ => ?_); all_goals (try simp only [go_sem, reduceIte, Nat.reduceEqDiff, reduceCtorEq, Nat.reduceAdd, Nat.reduceMul]); all_goals (try dsimp only at hi ho hR))
    | (refine E.NEXT.use [((7, 0), (19, 0))] (i + 1, out ++ [(i : Int)]) ?_ ?_ ?_; rotate_left 2; focus (simp only [go_sem, reduceIte, Nat.reduceEqDiff, reduceCtorEq, Nat.reduceAdd, Nat.reduceMul]; (repeat' (first | with_reducible rfl | exact E.RK.mk (by kernel_rfl) | apply And.intro | (push_cast; with_reducible rfl) | (refine E.int_c ?_; omega) | (simp only [go_sem, reduceIte, Nat.reduceEqDiff, reduceCtorEq, Nat.reduceAdd, Nat.reduceMul]; done) | (simp; done) | fail)); done))
    | (refine E.NEXT.use [] (i + 1, out) ?_ ?_ ?_; rotate_left 2; focus (simp only [go_sem, reduceIte, Nat.reduceEqDiff, reduceCtorEq, Nat.reduceAdd, Nat.reduceMul]; (repeat' (first | with_reducible rfl | exact E.RK.mk (by kernel_rfl) | apply And.intro | (push_cast; with_reducible rfl) | (refine E.int_c ?_; omega) | (simp only [go_sem, reduceIte, Nat.reduceEqDiff, reduceCtorEq, Nat.reduceAdd, Nat.reduceMul]; done) | (simp; done) | fail)); done))
    | apply And.intro
    | omega
    | (dsimp only; omega)
    | (push_cast; with_reducible rfl)
    | refine congrArg (List.map _) ?_
    | (rw [drop5 (by omega)] at hR; simpa [*] using hR; done)
    | (rw [drop5e (by omega)] at hR; rw [← hR]; simp; done)
    | (simp [reach]; done)
    | fail)

theorem reach_impl (l : List Int) (id : Int) (hl : l.length ≤ 1048576) : Fn Go.Proofs.Try.prog 22 [.c (.s false 1 ((l).map eInt)), .c (.v (vi (id)))] [.c .d, .c .d] [.c (.s true 1 ((reach l id).map eInt))] := by
  refine E.Fn.ev (n := 21) noMd false mix Go.Proofs.Try.func22 rfl (by simp [Go.Proofs.Try.f22]) Go.Proofs.Try.ntmps22 (by simp) (by kernel_rfl) (rs := [.tmp 4]) (tys := [24]) rfl rfl rfl (by simp [resOK, A.ts, ownE, ownT, own_eInt]) ?_
  simp only [go_sem, reduceIte, Nat.reduceEqDiff, reduceCtorEq, Nat.reduceAdd, Nat.reduceMul]
  repeat' (first
    | with_reducible rfl
    | exact trivial
    | simp only [List.cons.injEq, A.c.injEq, A.a.injEq, T.v.injEq, T.s.injEq, Value.bool.injEq, Value.int.injEq, and_true, true_and]
    | (refine E.CALL.use (sameSide_impl _ _ _ hl) ?_ <;> (try simp only [go_sem, reduceIte, Nat.reduceEqDiff, reduceCtorEq, Nat.reduceAdd, Nat.reduceMul]))
    | (refine E.GB.use (fun h => ?_) (fun h => ?_) <;> (simp only [go_sem, reduceIte, Nat.reduceEqDiff, reduceCtorEq, Nat.reduceAdd, Nat.reduceMul, h]) <;> (try simp only [decide_eq_true_eq, decide_eq_false_iff_not, Bool.not_eq_true', Bool.not_eq_false', Bool.not_eq_true, Bool.not_eq_false, beq_iff_eq, beq_eq_false_iff_ne, bne_iff_ne, bne_eq_false_iff_eq, Int.not_lt, Int.not_le, ne_eq] at h))
    | exact E.INDEP.mk (by kernel_rfl)
    | (refine E.NQ.use (fun b hb => ?_); simp only [go_sem, reduceIte, Nat.reduceEqDiff, reduceCtorEq, Nat.reduceAdd, Nat.reduceMul])
    | exact E.RK.mk (by kernel_rfl)
    | (refine E.IX_map ?_ (fun hx => ?_); rotate_left; simp only [go_sem, reduceIte, Nat.reduceEqDiff, reduceCtorEq, Nat.reduceAdd, Nat.reduceMul])
    | (refine E.loopR (ι := Nat × List Int) 3 rfl (fun p => [(.s 8, .v (.c (.v (vi p.1)))), (.s 5, .v (.c (.r (7, 0) 0 [] 0 (p.2).length))), (.k (7, 0), .e ⟨0, 1, (p.2).map eInt⟩)]) [0, 1, 4, 20] [(7, 0)] [] (fun p => 5 - p.1) (fun p => p.1 ≤ 5 ∧ p.2.length ≤ p.1 ∧ p.2 ++ (([0, 1, 2, 3, 4] : List Int).drop p.1).filter (fun x => sameSide l id x) = reach l id) mix (by kernel_rfl) (0, []) ?_ ?_ (fun ⟨i, out⟩ ⟨hi, ho, hR⟩ => ?_); all_goals (try simp only [go_sem, reduceIte, Nat.reduceEqDiff, reduceCtorEq, Nat.reduceAdd, Nat.reduceMul]); all_goals (try dsimp only at hi ho hR))
    | (refine E.NEXT.use [((7, 0), (18, 0))] (i + 1, out ++ [(i : Int)]) ?_ ?_ ?_; rotate_left 2; focus (simp only [go_sem, reduceIte, Nat.reduceEqDiff, reduceCtorEq, Nat.reduceAdd, Nat.reduceMul]; (repeat' (first | with_reducible rfl | exact E.RK.mk (by kernel_rfl) | apply And.intro | (push_cast; with_reducible rfl) | (refine E.int_c ?_; omega) | (simp only [go_sem, reduceIte, Nat.reduceEqDiff, reduceCtorEq, Nat.reduceAdd, Nat.reduceMul]; done) | (simp; done) | fail)); done))
    | (refine E.NEXT.use [] (i + 1, out) ?_ ?_ ?_; rotate_left 2; focus (simp only [go_sem, reduceIte, Nat.reduceEqDiff, reduceCtorEq, Nat.reduceAdd, Nat.reduceMul]; (repeat' (first | with_reducible rfl | exact E.RK.mk (by kernel_rfl) | apply And.intro | (push_cast; with_reducible rfl) | (refine E.int_c ?_; omega) | (simp only [go_sem, reduceIte, Nat.reduceEqDiff, reduceCtorEq, Nat.reduceAdd, Nat.reduceMul]; done) | (simp; done) | fail)); done))
    | apply And.intro
    | omega
    | (dsimp only; omega)
    | (push_cast; with_reducible rfl)
    | refine congrArg (List.map _) ?_
    | (rw [drop5 (by omega)] at hR; simpa [*] using hR; done)
    | (rw [drop5e (by omega)] at hR; rw [← hR]; simp; done)
    | (simp [reach]; done)
    | fail)

theorem moveSide_spec (l : List Int) (id s : Int) (hl : l.length ≤ 1048576) : Fn Go.Proofs.Try.prog 23 [.c (.s false 1 ((l).map eInt)), .c (.v (vi (id))), .c (.v (vi (s)))] [.c .d, .c .d, .c .d] [.c (.s true 1 (((moveSide l id s).1).map eInt)), .c (.v (.bool ((moveSide l id s).2)))] := by
  refine E.Fn.ev (n := 31) noMd false mix Go.Proofs.Try.func23 rfl (by simp [Go.Proofs.Try.f23]) Go.Proofs.Try.ntmps23 (by simp) (by kernel_rfl) (rs := [.tmp 6, .tmp 7]) (tys := [24, 4]) rfl rfl rfl (by simp [resOK, A.ts, ownE, ownT, own_eInt]) ?_
  simp only [go_sem, reduceIte, Nat.reduceEqDiff, reduceCtorEq, Nat.reduceAdd, Nat.reduceMul]
  repeat' (first
    | with_reducible rfl
    | exact trivial
    | simp only [List.cons.injEq, A.c.injEq, A.a.injEq, T.v.injEq, T.s.injEq, Value.bool.injEq, Value.int.injEq, and_true, true_and]
    | (refine E.CALL.use (areSides_spec _ hl) ?_ <;> (try simp only [go_sem, reduceIte, Nat.reduceEqDiff, reduceCtorEq, Nat.reduceAdd, Nat.reduceMul]))
    | (refine E.CALL.use (in_spec _ _ _) ?_ <;> (try simp only [go_sem, reduceIte, Nat.reduceEqDiff, reduceCtorEq, Nat.reduceAdd, Nat.reduceMul]))
    | (refine E.GB.use (fun h => ?_) (fun h => ?_) <;> (simp only [go_sem, reduceIte, Nat.reduceEqDiff, reduceCtorEq, Nat.reduceAdd, Nat.reduceMul, h]) <;> (try simp only [decide_eq_true_eq, decide_eq_false_iff_not, Bool.not_eq_true', Bool.not_eq_false', Bool.not_eq_true, Bool.not_eq_false, beq_iff_eq, beq_eq_false_iff_ne, bne_iff_ne, bne_eq_false_iff_eq, Int.not_lt, Int.not_le, ne_eq] at h))
    | exact E.INDEP.mk (by kernel_rfl)
    | (refine E.NQ.use (fun b hb => ?_); simp only [go_sem, reduceIte, Nat.reduceEqDiff, reduceCtorEq, Nat.reduceAdd, Nat.reduceMul])
    | exact E.RK.mk (by kernel_rfl)
    | (refine E.IX_map ?_ (fun hx => ?_); rotate_left; simp only [go_sem, reduceIte, Nat.reduceEqDiff, reduceCtorEq, Nat.reduceAdd, Nat.reduceMul])
    | apply And.intro
    | omega
    | (dsimp only; omega)
    | (push_cast; with_reducible rfl)
    | refine congrArg (List.map _) ?_
    | (have q1 := areSides_len (l := l) (by assumption); have q2 := inR_of (x := id) (by assumption); omega; done)
    | (simp [moveSide, *]; done)
    | (simp [moveSide, eInt_eq, *]; done)
    | fail)

theorem moveSide_impl (l : List Int) (id s : Int) (hl : l.length ≤ 1048576) : Fn Go.Proofs.Try.prog 24 [.c (.s false 1 ((l).map eInt)), .c (.v (vi (id))), .c (.v (vi (s)))] [.c .d, .c .d, .c .d] [.c (.s true 1 (((moveSide l id s).1).map eInt)), .c (.v (.bool ((moveSide l id s).2)))] := by
  refine E.Fn.ev (n := 30) noMd false mix Go.Proofs.Try.func24 rfl (by simp [Go.Proofs.Try.f24]) Go.Proofs.Try.ntmps24 (by simp) (by kernel_rfl) (rs := [.tmp 6, .tmp 7]) (tys := [24, 4]) rfl rfl rfl (by simp [resOK, A.ts, ownE, ownT, own_eInt]) ?_
  simp only [go_sem, reduceIte, Nat.reduceEqDiff, reduceCtorEq, Nat.reduceAdd, Nat.reduceMul]
  repeat' (first
    | with_reducible rfl
    | exact trivial
    | simp only [List.cons.injEq, A.c.injEq, A.a.injEq, T.v.injEq, T.s.injEq, Value.bool.injEq, Value.int.injEq, and_true, true_and]
    | (refine E.CALL.use (areSides_impl _ hl) ?_ <;> (try simp only [go_sem, reduceIte, Nat.reduceEqDiff, reduceCtorEq, Nat.reduceAdd, Nat.reduceMul]))
    | (refine E.CALL.use (in_impl _ _ _) ?_ <;> (try simp only [go_sem, reduceIte, Nat.reduceEqDiff, reduceCtorEq, Nat.reduceAdd, Nat.reduceMul]))
    | (refine E.CALL.use (clone_c _ hl) ?_ <;> (try simp only [go_sem, reduceIte, Nat.reduceEqDiff, reduceCtorEq, Nat.reduceAdd, Nat.reduceMul]))
    | (refine E.GB.use (fun h => ?_) (fun h => ?_) <;> (simp only [go_sem, reduceIte, Nat.reduceEqDiff, reduceCtorEq, Nat.reduceAdd, Nat.reduceMul, h]) <;> (try simp only [decide_eq_true_eq, decide_eq_false_iff_not, Bool.not_eq_true', Bool.not_eq_false', Bool.not_eq_true, Bool.not_eq_false, beq_iff_eq, beq_eq_false_iff_ne, bne_iff_ne, bne_eq_false_iff_eq, Int.not_lt, Int.not_le, ne_eq] at h))
    | exact E.INDEP.mk (by kernel_rfl)
    | (refine E.NQ.use (fun b hb => ?_); simp only [go_sem, reduceIte, Nat.reduceEqDiff, reduceCtorEq, Nat.reduceAdd, Nat.reduceMul])
    | exact E.RK.mk (by kernel_rfl)
    | (refine E.IX_map ?_ (fun hx => ?_); rotate_left; simp only [go_sem, reduceIte, Nat.reduceEqDiff, reduceCtorEq, Nat.reduceAdd, Nat.reduceMul])
    | apply And.intro
    | omega
    | (dsimp only; omega)
    | (push_cast; with_reducible rfl)
    | refine congrArg (List.map _) ?_
    | (have q1 := areSides_len (l := l) (by assumption); have q2 := inR_of (x := id) (by assumption); omega; done)
    | (simp [moveSide, *]; done)
    | (simp [moveSide, eInt_eq, *]; done)
    | fail)

end Go.Abs

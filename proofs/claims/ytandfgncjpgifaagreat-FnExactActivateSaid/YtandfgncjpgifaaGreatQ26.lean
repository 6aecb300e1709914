/- Contracts of functions of the program, over the abstract machine, and facts for them. No condition. -/
import Derived.Test.YtandfgncjpgifaaGreatFacts
import Derived.Test.YtandfgncjpgifaaGreatPure19
import Derived.Test.YtandfgncjpgifaaGreatQ13
import Derived.Test.YtandfgncjpgifaaGreatQ14
import Derived.Test.YtandfgncjpgifaaGreatQ17
import Derived.Test.YtandfgncjpgifaaGreatQ3
import Derived.Test.YtandfgncjpgifaaGreatQ4
import Derived.Test.YtandfgncjpgifaaGreatQ6
import Derived.Test.YtandfgncjpgifaaGreatQ8
import Derived.Test.YtandfgncjpgifaaGreatQ9
set_option linter.unusedVariables false
set_option linter.unusedSimpArgs false
set_option linter.unnecessarySimpa false
set_option linter.constructorNameAsVariable false
set_option maxHeartbeats 4000000
set_option maxRecDepth 100000
namespace Go.Abs
open Go
attribute [local go_sem ↓] E.argsA_h E.wq_ret E.wq_req E.wq_bad E.wq_call E.wq_get E.wq_getO E.wq_getOs E.wq_getPs E.wq_fresh E.wq_anyNil E.wq_getR0 E.wq_getR E.wq_ixM E.wq_n E.wq_g E.wq_gn E.ev_skip E.ev_region E.ev_draw E.ev_seq E.ev_cond E.ev_block E.ev_exit E.ev_ret E.sq_n E.sq_e E.sq_r E.bl_n E.bl_e E.bl_r E.lp_n E.lp_e E.lp_r E.fk_n E.fk_r E.q_move E.q_assign E.q_pick E.q_bin E.q_binw E.q_un E.q_alloc E.q_box E.q_build E.q_buildS E.q_makeS E.q_load E.q_store E.q_nilCheck E.q_slice E.q_fieldAddr E.q_field E.q_indexAddr E.q_extract E.q_makeFunc E.q_call E.q_callT E.q_len E.q_append E.q_min E.q_max E.q_convert E.q_cap E.q_clear appendIM appendZM E.b_add E.b_sub E.b_mul E.b_eql E.b_neq E.b_lss E.b_leq E.b_gtr E.b_geq E.GO_tmp E.GO_int E.GO_bool E.GO_str E.GO_nil E.GO_func E.GOs_nil E.GOs_cons E.GPs_nil E.GPs_cons E.RW_nil E.RW_cons E.dstAt_0 E.dstAt_s E.keepL_nil E.keepL_s E.keepL_k E.rmN_nil E.rmN_cons E.memN_nil E.memN_cons E.memK_nil E.memK_cons E.ovl_nil E.ovl_kk E.ovl_sk E.ovl_ks E.ovl_ss ofL_s ofL_sk ofL_ks ofL_k ofL_nil E.CO_tmp E.CO_bool
attribute [local go_sem] E.RM_nil E.RM_cons E.kd_k E.sbr_eq E.s3_nil E.s3_s E.s3_k E.vr_c E.vr_a E.vr_p E.vr_q E.vr_t E.vr_f E.vr_u E.cr_r E.cr_v E.cr_b E.cr_n E.cr_u E.crs_nil E.crs_cons E.renK_nil E.renK_cons keysVs V.keys C.keys keysCs E.RG_nil E.RG_cons E.GV_v E.GB_true E.GB_false E.GX_b E.GG_t E.GG_f E.GG_u E.GU_some E.IX_0 E.IX_s E.CX_s E.FR_none E.EN_e E.GVB_b E.b_boolM E.b_nilM E.b_strM E.b_aggM
attribute [local go_sem] List.cons_append List.nil_append List.append_nil List.length_cons List.length_nil List.length_map List.length_append callM E.argsH_nil E.argsH_cons E.argH_c E.argH_a E.argH_f E.cellsH_nil E.cellsH_cons E.cellH_v E.cellH_b E.cellH_n E.cellH_nt E.cellH_u E.cellH_rt E.cellH_rf capsA capA callable backs backT resVs resV resC tupV lenV intV boolV getE getO entryL entryKs A.ts entryV entryC entryCs entryCap List.map_cons List.map_nil E.cut_n E.cut_r E.cutM plainL A.capOK szEs szE szT SZ whole toB toC List.drop_zero List.take_zero List.take_succ_cons List.drop_succ_cons resultsM resultM outM outM1 convs conv finAs finA finT finTs Int.toNat_natCast A.plain T.plain List.isEmpty_nil List.isEmpty_cons Bool.or_true Bool.true_or Bool.and_self List.getElem?_cons_zero List.getElem?_cons_succ Option.bind_some Option.bind_none Option.bind Nat.zero_add Nat.add_zero OWN BOR ONE SCAL DE ETA E.take_rest Int.toNat_zero E.take_map E.drop_map E.take_len1 List.take_length E.app_map Int.natCast_zero Int.sub_zero Int.toNat_sub partCells V.cells convsL appendM srcM E.scalEs_nil E.scalEs_cons E.oneEs_nil E.oneEs_cons List.all_cons List.all_nil T.one Bool.and_true gone ownEs ownE ownT borEs borE borT setRow splice List.set_cons_zero List.set_cons_succ optI getOpt sliceM ptrTo app_ofL T.isV Value.oneCell' fillC zeroC spliceC allV eqVs eqV minV maxV setAt setCell holed List.dropLast List.getLast?_singleton Option.getD_some Option.isSome_some Option.isSome_none Bool.and_false Bool.true_and Bool.false_and Option.map_some Option.map_none false_or true_or or_true rowAt cellAt E.constV_nil E.constV_int E.constV_bool E.constV_str E.setCell_set E.setCell_len setRow setAt List.dropLast_cons_cons List.dropLast_singleton List.getLast?_cons_cons
attribute [local irreducible] E.argsH E.argH E.cellsH E.cellH E.GV E.GB E.GX E.GG E.GU E.IX E.CX E.RW E.FR E.EN E.CALL E.GO E.GOs E.GPs E.GVB E.KD E.RM E.RG E.CO E.WQ E.EV E.SQ E.BL E.LP E.FK E.S3 E.RK E.NEXT E.NQ E.INDEP
section
attribute [local go_sem] mdG_eq mdM toNat_pred setI List.length_set eLI_eq eLE_eq
theorem hasEp_i (c : Clu) (id : Int) (o : Int) (e : Int) (hB : CluB c) (hl : c.srvs.length = 5) (hm : 0 ≤ o ∧ o ≤ 4) : Fn Go.Proofs.Tryz.prog 205 [.a (eClu false c), .c (.v (vi id)), .c (.v (vi o)), .c (.v (vi e))] [.a [.d, .d, .d, .d, .d, .d, .d, .d, .d, .d], .c .d, .c .d, .c .d] [.c (.v (.bool (hasEpoch c id o e)))] := by
  refine E.Fn.ev (n := 31) mdG false mix Go.Proofs.Tryz.func205 rfl (by simp [Go.Proofs.Tryz.f205]) Go.Proofs.Tryz.ntmps205 (by simp) (by kernel_rfl) (rs := [.tmp 8]) (tys := [4]) rfl rfl (by simp [finOK, A.ts, OWN, ownE, ownT]) (by simp [resOK, A.ts, OWN, ownE, ownT, DE]) ?_
  simp only [go_sem, ↓reduceIte, Nat.reduceEqDiff, reduceCtorEq, Nat.reduceAdd, Nat.reduceMul]
  repeat' (first
    | simp only [List.cons.injEq, A.c.injEq, A.a.injEq, T.v.injEq, T.s.injEq, Value.bool.injEq, Value.int.injEq, and_true, true_and]
    | (refine E.CALL.use (sameSide_i _ _ _ ?_) ?_ <;> (try simp only [go_sem, ↓reduceIte, Nat.reduceEqDiff, reduceCtorEq, Nat.reduceAdd, Nat.reduceMul]))
    | (refine E.GB.use (fun h => ?_) (fun h => ?_) <;> (simp only [go_sem, ↓reduceIte, Nat.reduceEqDiff, reduceCtorEq, Nat.reduceAdd, Nat.reduceMul, h]) <;> (try simp only [decide_eq_true_eq, decide_eq_false_iff_not, Bool.not_eq_true', Bool.not_eq_false', Bool.not_eq_true, Bool.not_eq_false, beq_iff_eq, beq_eq_false_iff_ne, bne_iff_ne, bne_eq_false_iff_eq, Int.not_lt, Int.not_le, ne_eq] at h))
    | (refine E.IX_map ?_ (fun hx => ?_); rotate_left; simp only [go_sem, ↓reduceIte, Nat.reduceEqDiff, reduceCtorEq, Nat.reduceAdd, Nat.reduceMul])
    | apply And.intro
    | omega
    | (exact CluB.sd (by assumption); done)
    | (simp [hasEpoch, srvAt, *]; done)
    | fail)

theorem sources_i (c : Clu) (id : Int) (hB : CluB c) : Fn Go.Proofs.Tryz.prog 204 [.a (eClu false c), .c (.v (vi id))] [.a [.d, .d, .d, .d, .d, .d, .d, .d, .d, .d], .c .d] [.c (.s true 1 ((sourcesFor c id).map eInt))] := by
  refine E.Fn.ev (n := 45) mdG false mix Go.Proofs.Tryz.func204 rfl (by simp [Go.Proofs.Tryz.f204]) Go.Proofs.Tryz.ntmps204 (by simp) (by kernel_rfl) (rs := [.tmp 4]) (tys := [23]) rfl rfl (by simp [finOK, A.ts, OWN, ownE, ownT]) (by simp [resOK, A.ts, OWN, ownE, ownT, DE]) ?_
  simp only [go_sem, ↓reduceIte, Nat.reduceEqDiff, reduceCtorEq, Nat.reduceAdd, Nat.reduceMul]
  repeat' (first
    | simp only [List.cons.injEq, A.c.injEq, A.a.injEq, T.v.injEq, T.s.injEq, Value.bool.injEq, Value.int.injEq, and_true, true_and]
    | (refine E.CALL.use (lastAct_i_B _ ?_) ?_ <;> (try simp only [go_sem, ↓reduceIte, Nat.reduceEqDiff, reduceCtorEq, Nat.reduceAdd, Nat.reduceMul]))
    | (refine E.CALL.use (hasSrv_i _ _ ?_) ?_ <;> (try simp only [go_sem, ↓reduceIte, Nat.reduceEqDiff, reduceCtorEq, Nat.reduceAdd, Nat.reduceMul]))
    | (refine E.CALL.use (hasEp_i _ _ _ _ ?_ ?_ ?_) ?_ <;> (try simp only [go_sem, ↓reduceIte, Nat.reduceEqDiff, reduceCtorEq, Nat.reduceAdd, Nat.reduceMul]))
    | (refine E.GB.use (fun h => ?_) (fun h => ?_) <;> (simp only [go_sem, ↓reduceIte, Nat.reduceEqDiff, reduceCtorEq, Nat.reduceAdd, Nat.reduceMul, h]) <;> (try simp only [decide_eq_true_eq, decide_eq_false_iff_not, Bool.not_eq_true', Bool.not_eq_false', Bool.not_eq_true, Bool.not_eq_false, beq_iff_eq, beq_eq_false_iff_ne, bne_iff_ne, bne_eq_false_iff_eq, Int.not_lt, Int.not_le, ne_eq] at h))
    | exact E.RK.mk (by kernel_rfl)
    | (refine E.IX_map ?_ (fun hx => ?_); rotate_left; simp only [go_sem, ↓reduceIte, Nat.reduceEqDiff, reduceCtorEq, Nat.reduceAdd, Nat.reduceMul])
    | (refine E.loopR (ι := Nat × List Int) 6 rfl (fun ⟨i, out⟩ => [(.s 29, .v (.c (.v (vi i)))), (.s 5, .v (.c (.r (10, 0) 0 [] 0 (out).length))), (.k (10, 0), .e ⟨0, 1, (out).map eInt⟩)]) [1, 2, 4, 6, 27, 28, 44] [(10, 0)] [] (fun ⟨i, out⟩ => ((lastAct c.mast).1.reps).length - i) (fun ⟨i, out⟩ => i ≤ ((lastAct c.mast).1.reps).length ∧ out.length ≤ i ∧ out ++ (((lastAct c.mast).1.reps).drop i).filter (fun o => hasEpoch c id o (lastAct c.mast).1.epoch) = sourcesFor c id) mix (by kernel_rfl) (0, []) ?_ ?_ (fun ⟨i, out⟩ ⟨hi, ho, hR⟩ => ?_); all_goals (try simp (maxSteps := 900000) only [go_sem, ↓reduceIte, Nat.reduceEqDiff, reduceCtorEq, Nat.reduceAdd, Nat.reduceMul]); all_goals (try dsimp only at hi ho hR))
    | (refine E.NEXT.use [] (i + 1, out) ?_ ?_ ?_; rotate_left 2; focus (simp (maxSteps := 900000) only [go_sem, ↓reduceIte, Nat.reduceEqDiff, reduceCtorEq, Nat.reduceAdd, Nat.reduceMul]; (repeat' (first | with_reducible rfl | exact E.RK.mk (by kernel_rfl) | apply And.intro | (push_cast; with_reducible rfl) | (refine E.int_c ?_; omega) | (simp only [go_sem, ↓reduceIte, Nat.reduceEqDiff, reduceCtorEq, Nat.reduceAdd, Nat.reduceMul]; done) | (rw [List.map_append]; rfl) | (simp; done) | (simp only [*]; done) | fail)); done))
    | (refine E.NEXT.use [((10, 0), (42, 0))] (i + 1, out ++ [at' (lastAct c.mast).1.reps i]) ?_ ?_ ?_; rotate_left 2; focus (simp (maxSteps := 900000) only [go_sem, ↓reduceIte, Nat.reduceEqDiff, reduceCtorEq, Nat.reduceAdd, Nat.reduceMul]; (repeat' (first | with_reducible rfl | exact E.RK.mk (by kernel_rfl) | apply And.intro | (push_cast; with_reducible rfl) | (refine E.int_c ?_; omega) | (simp only [go_sem, ↓reduceIte, Nat.reduceEqDiff, reduceCtorEq, Nat.reduceAdd, Nat.reduceMul]; done) | (rw [List.map_append]; rfl) | (simp; done) | (simp only [*]; done) | fail)); done))
    | apply And.intro
    | omega
    | (simp only [List.length_take, List.length_drop, List.length_append, List.length_set, List.length_cons, List.length_nil]; omega)
    | refine congrArg (List.map _) ?_
    | (have q := CluB.m hB; have q2 := q.la.r; omega; done)
    | (have q := hasSrv_of (c := c) (id := id) (by assumption); have q2 := conf_rep (lastAct_of (m := c.mast) (by assumption)).2.2.2.1 (E.at_mem (l := (lastAct c.mast).1.reps) (i := i) (by omega)); omega; done)
    | (rw [drop_at (l := (lastAct c.mast).1.reps) (i := i) (by omega)] at hR; simp only [List.filter_cons, h, if_true, if_false, Bool.false_eq_true] at hR; simpa using hR; done)
    | (rw [E.drop_end (l := (lastAct c.mast).1.reps) (i := i) (by omega)] at hR; simpa using hR; done)
    | (simp [sourcesFor, *]; done)
    | fail)

theorem hasEpoch_eq (c : Clu) (id o e : Int) : hasEpoch c id o e = ((at' c.srvs o.toNat).up && sameSide c.sides id o && ((at' c.srvs o.toNat).conf.epoch == e)) := rfl

theorem sources_s (c : Clu) (id : Int) (hB : CluB c) : Fn Go.Proofs.Tryz.prog 191 [.a (eClu false c), .c (.v (vi id))] [.a [.d, .d, .d, .d, .d, .d, .d, .d, .d, .d], .c .d] [.c (.s true 1 ((sourcesFor c id).map eInt))] := by
  refine E.Fn.ev (n := 74) mdG false mix Go.Proofs.Tryz.func191 rfl (by simp [Go.Proofs.Tryz.f191]) Go.Proofs.Tryz.ntmps191 (by simp) (by kernel_rfl) (rs := [.tmp 4]) (tys := [23]) rfl rfl (by simp [finOK, A.ts, OWN, ownE, ownT]) (by simp [resOK, A.ts, OWN, ownE, ownT, DE]) ?_
  simp only [go_sem, ↓reduceIte, Nat.reduceEqDiff, reduceCtorEq, Nat.reduceAdd, Nat.reduceMul]
  repeat' (first
    | simp only [List.cons.injEq, A.c.injEq, A.a.injEq, T.v.injEq, T.s.injEq, Value.bool.injEq, Value.int.injEq, and_true, true_and]
    | (refine E.CALL.use (lastAct_s_B _ ?_) ?_ <;> (try simp only [go_sem, ↓reduceIte, Nat.reduceEqDiff, reduceCtorEq, Nat.reduceAdd, Nat.reduceMul]))
    | (refine E.CALL.use (validClu_s_B _ ?_) ?_ <;> (try simp only [go_sem, ↓reduceIte, Nat.reduceEqDiff, reduceCtorEq, Nat.reduceAdd, Nat.reduceMul]))
    | (refine E.CALL.use (in_s _ _ _) ?_ <;> (try simp only [go_sem, ↓reduceIte, Nat.reduceEqDiff, reduceCtorEq, Nat.reduceAdd, Nat.reduceMul]))
    | (refine E.CALL.use (sameSide_s _ _ _ ?_) ?_ <;> (try simp only [go_sem, ↓reduceIte, Nat.reduceEqDiff, reduceCtorEq, Nat.reduceAdd, Nat.reduceMul]))
    | (refine E.GB.use (fun h => ?_) (fun h => ?_) <;> (simp only [go_sem, ↓reduceIte, Nat.reduceEqDiff, reduceCtorEq, Nat.reduceAdd, Nat.reduceMul, h]) <;> (try simp only [decide_eq_true_eq, decide_eq_false_iff_not, Bool.not_eq_true', Bool.not_eq_false', Bool.not_eq_true, Bool.not_eq_false, beq_iff_eq, beq_eq_false_iff_ne, bne_iff_ne, bne_eq_false_iff_eq, Int.not_lt, Int.not_le, ne_eq] at h))
    | exact E.INDEP.mk2 (by kernel_rfl)
    | exact E.RK.mk (by kernel_rfl)
    | (refine E.IX_map ?_ (fun hx => ?_); rotate_left; simp only [go_sem, ↓reduceIte, Nat.reduceEqDiff, reduceCtorEq, Nat.reduceAdd, Nat.reduceMul])
    | (refine E.loopR (ι := Nat × List Int) 4 rfl (fun ⟨i, out⟩ => [(.s 8, .v (.c (.v (vi i)))), (.s 5, .v (.c (.r (10, 0) 0 [] 0 (out).length))), (.k (10, 0), .e ⟨0, 1, (out).map eInt⟩)]) [1, 2, 4, 6, 7, 73] [(10, 0)] [] (fun ⟨i, out⟩ => ((lastAct c.mast).1.reps).length - i) (fun ⟨i, out⟩ => i ≤ ((lastAct c.mast).1.reps).length ∧ out.length ≤ i ∧ (if (lastAct c.mast).2 && hasSrv c id then out ++ (((lastAct c.mast).1.reps).drop i).filter (fun o => hasEpoch c id o (lastAct c.mast).1.epoch) else out) = sourcesFor c id ∧ ((lastAct c.mast).2 && hasSrv c id) = ((lastAct c.mast).2 && validClu c && inR id 0 4) ∧ (((lastAct c.mast).2 && hasSrv c id) = false → out = [])) mix (by kernel_rfl) (0, []) ?_ ?_ (fun ⟨i, out⟩ ⟨hi, ho, hR, hV, hN⟩ => ?_); all_goals (try simp (maxSteps := 900000) only [go_sem, ↓reduceIte, Nat.reduceEqDiff, reduceCtorEq, Nat.reduceAdd, Nat.reduceMul]); all_goals (try dsimp only at hi ho hR hV hN))
    | (refine E.NEXT.use [] (i + 1, out) ?_ ?_ ?_; rotate_left 2; focus (simp (maxSteps := 900000) only [go_sem, ↓reduceIte, Nat.reduceEqDiff, reduceCtorEq, Nat.reduceAdd, Nat.reduceMul]; (repeat' (first | with_reducible rfl | exact E.RK.mk (by kernel_rfl) | apply And.intro | (push_cast; with_reducible rfl) | (refine E.int_c ?_; omega) | (simp only [go_sem, ↓reduceIte, Nat.reduceEqDiff, reduceCtorEq, Nat.reduceAdd, Nat.reduceMul]; done) | (rw [List.map_append]; rfl) | (simp; done) | (simp only [*]; done) | fail)); done))
    | (refine E.NEXT.use [((10, 0), (72, 0))] (i + 1, out ++ [at' (lastAct c.mast).1.reps i]) ?_ ?_ ?_; rotate_left 2; focus (simp (maxSteps := 900000) only [go_sem, ↓reduceIte, Nat.reduceEqDiff, reduceCtorEq, Nat.reduceAdd, Nat.reduceMul]; (repeat' (first | with_reducible rfl | exact E.RK.mk (by kernel_rfl) | apply And.intro | (push_cast; with_reducible rfl) | (refine E.int_c ?_; omega) | (simp only [go_sem, ↓reduceIte, Nat.reduceEqDiff, reduceCtorEq, Nat.reduceAdd, Nat.reduceMul]; done) | (rw [List.map_append]; rfl) | (simp; done) | (simp only [*]; done) | fail)); done))
    | apply And.intro
    | omega
    | (simp only [List.length_take, List.length_drop, List.length_append, List.length_set, List.length_cons, List.length_nil]; omega)
    | refine congrArg (List.map _) ?_
    | (have q := CluB.m hB; have q2 := q.la.r; omega; done)
    | (have q := validClu_of (c := c) (by assumption); have q2 := conf_rep (lastAct_of (m := c.mast) (by assumption)).2.2.2.1 (E.at_mem (l := (lastAct c.mast).1.reps) (i := i) (by omega)); omega; done)
    | (exact CluB.sd (by assumption); done)
    | (have e : ((lastAct c.mast).2 && hasSrv c id) = true := (by simp only [hasSrv, Bool.and_eq_true]; exact ⟨by assumption, by assumption, by assumption⟩); rw [if_pos e] at hR ⊢; clear hV hN; rw [drop_at (l := (lastAct c.mast).1.reps) (i := i) (by omega)] at hR; have g : hasEpoch c id (at' (lastAct c.mast).1.reps i) (lastAct c.mast).1.epoch = true := (by rw [hasEpoch_eq]; clear hR; simp [*]); simp only [List.filter_cons, g, if_true, if_false, Bool.false_eq_true] at hR; simpa using hR; done)
    | (have e : ((lastAct c.mast).2 && hasSrv c id) = true := (by simp only [hasSrv, Bool.and_eq_true]; exact ⟨by assumption, by assumption, by assumption⟩); rw [if_pos e] at hR ⊢; clear hV hN; rw [drop_at (l := (lastAct c.mast).1.reps) (i := i) (by omega)] at hR; have g : hasEpoch c id (at' (lastAct c.mast).1.reps i) (lastAct c.mast).1.epoch = false := (by rw [hasEpoch_eq]; clear hR; simp [*]); simp only [List.filter_cons, g, if_true, if_false, Bool.false_eq_true] at hR; simpa using hR; done)
    | (rw [E.drop_end (l := (lastAct c.mast).1.reps) (i := i) (by omega)] at hR; simpa using hR; done)
    | (rw [← hR]; simp [hasSrv, *]; done)
    | (simp [sourcesFor, hasSrv, *]; done)
    | (simp [hasSrv, Bool.and_assoc]; done)
    | fail)

end
section
attribute [local go_sem] mdG_eq mdM toNat_pred setI List.length_set eLI_eq eLE_eq
theorem bestSrc_i (c : Clu) (id : Int) (hB : CluB c) : Fn Go.Proofs.Tryz.prog 143 [.a (eClu false c), .c (.v (vi id))] [.a [.d, .d, .d, .d, .d, .d, .d, .d, .d, .d], .c .d] [.c (.v (vi (bestSource c id)))] := by
  refine E.Fn.ev (n := 38) mdG false mix Go.Proofs.Tryz.func143 rfl (by simp [Go.Proofs.Tryz.f143]) Go.Proofs.Tryz.ntmps143 (by simp) (by kernel_rfl) (rs := [.tmp 4]) (tys := [3]) rfl rfl (by simp [finOK, A.ts, OWN, ownE, ownT]) (by simp [resOK, A.ts, OWN, ownE, ownT, DE]) ?_
  simp only [go_sem, ↓reduceIte, Nat.reduceEqDiff, reduceCtorEq, Nat.reduceAdd, Nat.reduceMul]
  repeat' (first
    | simp only [List.cons.injEq, A.c.injEq, A.a.injEq, T.v.injEq, T.s.injEq, Value.bool.injEq, Value.int.injEq, and_true, true_and]
    | (refine E.CALL.use (sources_i _ _ ?_) ?_ <;> (try simp only [go_sem, ↓reduceIte, Nat.reduceEqDiff, reduceCtorEq, Nat.reduceAdd, Nat.reduceMul]))
    | (refine E.GB.use (fun h => ?_) (fun h => ?_) <;> (simp only [go_sem, ↓reduceIte, Nat.reduceEqDiff, reduceCtorEq, Nat.reduceAdd, Nat.reduceMul, h]) <;> (try simp only [decide_eq_true_eq, decide_eq_false_iff_not, Bool.not_eq_true', Bool.not_eq_false', Bool.not_eq_true, Bool.not_eq_false, beq_iff_eq, beq_eq_false_iff_ne, bne_iff_ne, bne_eq_false_iff_eq, Int.not_lt, Int.not_le, ne_eq] at h))
    | exact E.INDEP.mk2 (by kernel_rfl)
    | exact E.RK.mk (by kernel_rfl)
    | (refine E.IX_map ?_ (fun hx => ?_); rotate_left; simp only [go_sem, ↓reduceIte, Nat.reduceEqDiff, reduceCtorEq, Nat.reduceAdd, Nat.reduceMul])
    | (refine E.loopR (ι := Nat × Int) 3 rfl (fun ⟨i, b⟩ => [(.s 12, .v (.c (.v (vi i)))), (.s 5, .v (.c (.v (vi b))))]) [2, 4, 10, 11, 37] [] [] (fun ⟨i, b⟩ => (sourcesFor c id).length - i) (fun ⟨i, b⟩ => i ≤ (sourcesFor c id).length ∧ bestOf c b ((sourcesFor c id).drop i) = bestSource c id ∧ (0 ≤ b → b ≤ 4 ∧ 0 < i) ∧ -1 ≤ b) mix (by kernel_rfl) (0, -1) ?_ ?_ (fun ⟨i, b⟩ ⟨hi, hR, hb, hb2⟩ => ?_); all_goals (try simp (maxSteps := 900000) only [go_sem, ↓reduceIte, Nat.reduceEqDiff, reduceCtorEq, Nat.reduceAdd, Nat.reduceMul]); all_goals (try dsimp only at hi hR hb hb2))
    | (refine E.NEXT.use [] (i + 1, b) ?_ ?_ ?_; rotate_left 2; focus (simp (maxSteps := 900000) only [go_sem, ↓reduceIte, Nat.reduceEqDiff, reduceCtorEq, Nat.reduceAdd, Nat.reduceMul]; (repeat' (first | with_reducible rfl | exact E.RK.mk (by kernel_rfl) | apply And.intro | (push_cast; with_reducible rfl) | (refine E.int_c ?_; omega) | (simp only [go_sem, ↓reduceIte, Nat.reduceEqDiff, reduceCtorEq, Nat.reduceAdd, Nat.reduceMul]; done) | (rw [List.map_append]; rfl) | (simp; done) | (simp only [*]; done) | fail)); done))
    | (refine E.NEXT.use [] (i + 1, at' (sourcesFor c id) i) ?_ ?_ ?_; rotate_left 2; focus (simp (maxSteps := 900000) only [go_sem, ↓reduceIte, Nat.reduceEqDiff, reduceCtorEq, Nat.reduceAdd, Nat.reduceMul]; (repeat' (first | with_reducible rfl | exact E.RK.mk (by kernel_rfl) | apply And.intro | (push_cast; with_reducible rfl) | (refine E.int_c ?_; omega) | (simp only [go_sem, ↓reduceIte, Nat.reduceEqDiff, reduceCtorEq, Nat.reduceAdd, Nat.reduceMul]; done) | (rw [List.map_append]; rfl) | (simp; done) | (simp only [*]; done) | fail)); done))
    | apply And.intro
    | omega
    | (have q := src_len c id; omega; done)
    | (have q := src_in (c := c) (id := id) (E.at_mem (l := sourcesFor c id) (i := i) (by omega)); omega; done)
    | (rw [drop_at (l := sourcesFor c id) (i := i) (by omega)] at hR; rw [bestOf] at hR; simpa [srvAt, *] using hR; done)
    | (rw [drop_at (l := sourcesFor c id) (i := i) (by omega)] at hR; rw [bestOf, if_pos (by simp only [srvAt]; omega)] at hR; exact hR; done)
    | (rw [drop_at (l := sourcesFor c id) (i := i) (by omega)] at hR; rw [bestOf, if_neg (by simp only [srvAt]; omega)] at hR; exact hR; done)
    | (rw [E.drop_end (l := sourcesFor c id) (i := i) (by omega)] at hR; exact hR; done)
    | (rfl; done)
    | fail)

theorem bestSrc_s (c : Clu) (id : Int) (hB : CluB c) : Fn Go.Proofs.Tryz.prog 121 [.a (eClu false c), .c (.v (vi id))] [.a [.d, .d, .d, .d, .d, .d, .d, .d, .d, .d], .c .d] [.c (.v (vi (bestSource c id)))] := by
  refine E.Fn.ev (n := 44) mdG false mix Go.Proofs.Tryz.func121 rfl (by simp [Go.Proofs.Tryz.f121]) Go.Proofs.Tryz.ntmps121 (by simp) (by kernel_rfl) (rs := [.tmp 4]) (tys := [3]) rfl rfl (by simp [finOK, A.ts, OWN, ownE, ownT]) (by simp [resOK, A.ts, OWN, ownE, ownT, DE]) ?_
  simp only [go_sem, ↓reduceIte, Nat.reduceEqDiff, reduceCtorEq, Nat.reduceAdd, Nat.reduceMul]
  repeat' (first
    | simp only [List.cons.injEq, A.c.injEq, A.a.injEq, T.v.injEq, T.s.injEq, Value.bool.injEq, Value.int.injEq, and_true, true_and]
    | (refine E.CALL.use (sources_s _ _ ?_) ?_ <;> (try simp only [go_sem, ↓reduceIte, Nat.reduceEqDiff, reduceCtorEq, Nat.reduceAdd, Nat.reduceMul]))
    | (refine E.GB.use (fun h => ?_) (fun h => ?_) <;> (simp only [go_sem, ↓reduceIte, Nat.reduceEqDiff, reduceCtorEq, Nat.reduceAdd, Nat.reduceMul, h]) <;> (try simp only [decide_eq_true_eq, decide_eq_false_iff_not, Bool.not_eq_true', Bool.not_eq_false', Bool.not_eq_true, Bool.not_eq_false, beq_iff_eq, beq_eq_false_iff_ne, bne_iff_ne, bne_eq_false_iff_eq, Int.not_lt, Int.not_le, ne_eq] at h))
    | exact E.INDEP.mk2 (by kernel_rfl)
    | exact E.RK.mk (by kernel_rfl)
    | (refine E.IX_map ?_ (fun hx => ?_); rotate_left; simp only [go_sem, ↓reduceIte, Nat.reduceEqDiff, reduceCtorEq, Nat.reduceAdd, Nat.reduceMul])
    | (refine E.loopR (ι := Nat × Int) 4 rfl (fun ⟨i, b⟩ => [(.s 7, .v (.c (.v (vi i)))), (.s 5, .v (.c (.v (vi b))))]) [2, 4, 6, 43] [] [] (fun ⟨i, b⟩ => (sourcesFor c id).length - i) (fun ⟨i, b⟩ => i ≤ (sourcesFor c id).length ∧ bestOf c b ((sourcesFor c id).drop i) = bestSource c id ∧ (0 ≤ b → b ≤ 4 ∧ 0 < i) ∧ -1 ≤ b) mix (by kernel_rfl) (0, -1) ?_ ?_ (fun ⟨i, b⟩ ⟨hi, hR, hb, hb2⟩ => ?_); all_goals (try simp (maxSteps := 900000) only [go_sem, ↓reduceIte, Nat.reduceEqDiff, reduceCtorEq, Nat.reduceAdd, Nat.reduceMul]); all_goals (try dsimp only at hi hR hb hb2))
    | (refine E.NEXT.use [] (i + 1, b) ?_ ?_ ?_; rotate_left 2; focus (simp (maxSteps := 900000) only [go_sem, ↓reduceIte, Nat.reduceEqDiff, reduceCtorEq, Nat.reduceAdd, Nat.reduceMul]; (repeat' (first | with_reducible rfl | exact E.RK.mk (by kernel_rfl) | apply And.intro | (push_cast; with_reducible rfl) | (refine E.int_c ?_; omega) | (simp only [go_sem, ↓reduceIte, Nat.reduceEqDiff, reduceCtorEq, Nat.reduceAdd, Nat.reduceMul]; done) | (rw [List.map_append]; rfl) | (simp; done) | (simp only [*]; done) | fail)); done))
    | (refine E.NEXT.use [] (i + 1, at' (sourcesFor c id) i) ?_ ?_ ?_; rotate_left 2; focus (simp (maxSteps := 900000) only [go_sem, ↓reduceIte, Nat.reduceEqDiff, reduceCtorEq, Nat.reduceAdd, Nat.reduceMul]; (repeat' (first | with_reducible rfl | exact E.RK.mk (by kernel_rfl) | apply And.intro | (push_cast; with_reducible rfl) | (refine E.int_c ?_; omega) | (simp only [go_sem, ↓reduceIte, Nat.reduceEqDiff, reduceCtorEq, Nat.reduceAdd, Nat.reduceMul]; done) | (rw [List.map_append]; rfl) | (simp; done) | (simp only [*]; done) | fail)); done))
    | apply And.intro
    | omega
    | (have q := src_len c id; omega; done)
    | (have q := src_in (c := c) (id := id) (E.at_mem (l := sourcesFor c id) (i := i) (by omega)); omega; done)
    | (rw [drop_at (l := sourcesFor c id) (i := i) (by omega)] at hR; rw [bestOf] at hR; simpa [srvAt, *] using hR; done)
    | (rw [drop_at (l := sourcesFor c id) (i := i) (by omega)] at hR; rw [bestOf, if_pos (by simp only [srvAt]; omega)] at hR; exact hR; done)
    | (rw [drop_at (l := sourcesFor c id) (i := i) (by omega)] at hR; rw [bestOf, if_neg (by simp only [srvAt]; omega)] at hR; exact hR; done)
    | (rw [E.drop_end (l := sourcesFor c id) (i := i) (by omega)] at hR; exact hR; done)
    | (rfl; done)
    | fail)

end
section
attribute [local go_sem] mdG_eq mdM toNat_pred setI List.length_set eLI_eq eLE_eq
theorem comData_ni {s : Srv} {id : Int} (h : isRep s id = false) : s.learned = comData s id := by rw [comData, if_neg (by simp [h])]
theorem comData_nl {s : Srv} {id : Int} (h : ((comPart s).length : Int) ≤ s.learned.length) : s.learned = comData s id := by rw [comData, if_neg (by omega)]
theorem comData_y {s : Srv} {id : Int} (h : isRep s id = true) (h2 : (s.learned.length : Int) < (comPart s).length) : comPart s = comData s id := by rw [comData, if_pos ⟨h, by omega⟩]
theorem isRep_role {s : Srv} {id : Int} (h : roleOf s.conf id = 1 ∨ roleOf s.conf id = 2) : isRep s id = true := by
  have hv := role_valid (c := s.conf) (id := id) (by omega)
  exact (role_rep hv).1 h

theorem comData_i (s : Srv) (id : Int) (hB : SrvB s) : Fn Go.Proofs.Tryz.prog 207 [.a (eSrv false s), .c (.v (vi id))] [.a [.d, .d, .d, .d, .d, .d, .d, .d, .d, .d, .d, .d], .c .d] [.c (.s true 7 ((comData s id).map eLEnt))] := by
  refine E.Fn.ev (n := 23) mdG false mix Go.Proofs.Tryz.func207 rfl (by simp [Go.Proofs.Tryz.f207]) Go.Proofs.Tryz.ntmps207 (by simp) (by kernel_rfl) (rs := [.tmp 4]) (tys := [64]) rfl rfl (by simp [finOK, A.ts, OWN, ownE, ownT]) (by simp [resOK, A.ts, OWN, ownE, ownT, DE]) ?_
  simp only [go_sem, ↓reduceIte, Nat.reduceEqDiff, reduceCtorEq, Nat.reduceAdd, Nat.reduceMul]
  repeat' (first
    | simp only [List.cons.injEq, A.c.injEq, A.a.injEq, T.v.injEq, T.s.injEq, Value.bool.injEq, Value.int.injEq, and_true, true_and]
    | (refine E.CALL.use (comPart_i _ ?_) ?_ <;> (try simp only [go_sem, ↓reduceIte, Nat.reduceEqDiff, reduceCtorEq, Nat.reduceAdd, Nat.reduceMul]))
    | (refine E.CALL.use (isRep_i _ _ ?_) ?_ <;> (try simp only [go_sem, ↓reduceIte, Nat.reduceEqDiff, reduceCtorEq, Nat.reduceAdd, Nat.reduceMul]))
    | (refine E.CALL.use (cloneE_c _ ?_) ?_ <;> (try simp only [go_sem, ↓reduceIte, Nat.reduceEqDiff, reduceCtorEq, Nat.reduceAdd, Nat.reduceMul]))
    | (refine E.GB.use (fun h => ?_) (fun h => ?_) <;> (simp only [go_sem, ↓reduceIte, Nat.reduceEqDiff, reduceCtorEq, Nat.reduceAdd, Nat.reduceMul, h]) <;> (try simp only [decide_eq_true_eq, decide_eq_false_iff_not, Bool.not_eq_true', Bool.not_eq_false', Bool.not_eq_true, Bool.not_eq_false, beq_iff_eq, beq_eq_false_iff_ne, bne_iff_ne, bne_eq_false_iff_eq, Int.not_lt, Int.not_le, ne_eq] at h))
    | apply And.intro
    | omega
    | refine congrArg (List.map _) ?_
    | (exact SrvB.learned (by assumption); done)
    | (exact comData_ni (by assumption); done)
    | (exact comData_nl (by assumption); done)
    | (exact comData_y (by assumption) (by assumption); done)
    | fail)

theorem isRep_nr {s : Srv} {id : Int} (hv : s.conf = noConf ∨ validConf s.conf = true) (h1 : ¬ roleOf s.conf id = 1) (h2 : ¬ roleOf s.conf id = 2) : isRep s id = false := by
  rcases hv with hv | hv
  · simp [isRep, hv, noConf]
  · have := (role_rep (id := id) hv).2
    cases h : isRep s id
    · rfl
    · rcases this h with h | h
      · exact absurd h h1
      · exact absurd h h2

theorem comData_s (s : Srv) (id : Int) (hB : SrvB s) (hv : s.conf = noConf ∨ validConf s.conf = true) : Fn Go.Proofs.Tryz.prog 193 [.a (eSrv false s), .c (.v (vi id))] [.a [.d, .d, .d, .d, .d, .d, .d, .d, .d, .d, .d, .d], .c .d] [.c (.s true 7 ((comData s id).map eLEnt))] := by
  refine E.Fn.ev (n := 30) mdG false mix Go.Proofs.Tryz.func193 rfl (by simp [Go.Proofs.Tryz.f193]) Go.Proofs.Tryz.ntmps193 (by simp) (by kernel_rfl) (rs := [.tmp 4]) (tys := [64]) rfl rfl (by simp [finOK, A.ts, OWN, ownE, ownT]) (by simp [resOK, A.ts, OWN, ownE, ownT, DE]) ?_
  simp only [go_sem, ↓reduceIte, Nat.reduceEqDiff, reduceCtorEq, Nat.reduceAdd, Nat.reduceMul]
  repeat' (first
    | simp only [List.cons.injEq, A.c.injEq, A.a.injEq, T.v.injEq, T.s.injEq, Value.bool.injEq, Value.int.injEq, and_true, true_and]
    | (refine E.CALL.use (role_s_B _ _ ?_) ?_ <;> (try simp only [go_sem, ↓reduceIte, Nat.reduceEqDiff, reduceCtorEq, Nat.reduceAdd, Nat.reduceMul]))
    | (refine E.CALL.use (copyL_s _ ?_) ?_ <;> (try simp only [go_sem, ↓reduceIte, Nat.reduceEqDiff, reduceCtorEq, Nat.reduceAdd, Nat.reduceMul]))
    | (refine E.CALL.use (comPart_s _ ?_) ?_ <;> (try simp only [go_sem, ↓reduceIte, Nat.reduceEqDiff, reduceCtorEq, Nat.reduceAdd, Nat.reduceMul]))
    | (refine E.GB.use (fun h => ?_) (fun h => ?_) <;> (simp only [go_sem, ↓reduceIte, Nat.reduceEqDiff, reduceCtorEq, Nat.reduceAdd, Nat.reduceMul, h]) <;> (try simp only [decide_eq_true_eq, decide_eq_false_iff_not, Bool.not_eq_true', Bool.not_eq_false', Bool.not_eq_true, Bool.not_eq_false, beq_iff_eq, beq_eq_false_iff_ne, bne_iff_ne, bne_eq_false_iff_eq, Int.not_lt, Int.not_le, ne_eq] at h))
    | apply And.intro
    | omega
    | refine congrArg (List.map _) ?_
    | (exact SrvB.conf (by assumption); done)
    | (exact SrvB.learned (by assumption); done)
    | (exact comData_ni (isRep_nr hv (by assumption) (by assumption)); done)
    | (exact comData_nl (by omega); done)
    | (exact comData_y (isRep_role (.inl (by assumption))) (by omega); done)
    | (exact comData_y (isRep_role (.inr (by assumption))) (by omega); done)
    | fail)

end

end Go.Abs

/- Contracts of functions of the program, over the abstract machine, and facts for them. No condition. -/
import Derived.Test.YtandfgncjpgifaaGreatFacts
import Derived.Test.YtandfgncjpgifaaGreatPure19
import Derived.Test.YtandfgncjpgifaaGreatQ13
import Derived.Test.YtandfgncjpgifaaGreatQ16
import Derived.Test.YtandfgncjpgifaaGreatQ3
import Derived.Test.YtandfgncjpgifaaGreatQ4
import Derived.Test.YtandfgncjpgifaaGreatQ44
import Derived.Test.YtandfgncjpgifaaGreatQ6
import Derived.Test.YtandfgncjpgifaaGreatQ8
set_option linter.unusedVariables false
set_option linter.unusedSimpArgs false
set_option linter.unnecessarySimpa false
set_option linter.constructorNameAsVariable false
set_option maxHeartbeats 4000000
set_option maxRecDepth 100000
namespace Go.Abs
open Go
attribute [local go_sem ↓] E.argsA_h E.wq_ret E.wq_req E.wq_bad E.wq_call E.wq_get E.wq_getO E.wq_getOs E.wq_getPs E.wq_fresh E.wq_anyNil E.wq_getR0 E.wq_getR E.wq_ixM E.wq_n E.wq_g E.wq_gn E.ev_skip E.ev_region E.ev_draw E.ev_seq E.ev_cond E.ev_block E.ev_exit E.ev_ret E.sq_n E.sq_e E.sq_r E.bl_n E.bl_e E.bl_r E.lp_n E.lp_e E.lp_r E.fk_n E.fk_r E.q_move E.q_assign E.q_pick E.q_bin E.q_binw E.q_un E.q_alloc E.q_box E.q_build E.q_buildS E.q_makeS E.q_load E.q_store E.q_nilCheck E.q_slice E.q_fieldAddr E.q_field E.q_indexAddr E.q_extract E.q_makeFunc E.q_call E.q_callT E.q_len E.q_append E.q_min E.q_max E.q_convert E.q_cap E.q_clear appendIM appendZM E.b_add E.b_sub E.b_mul E.b_eql E.b_neq E.b_lss E.b_leq E.b_gtr E.b_geq E.GO_tmp E.GO_int E.GO_bool E.GO_str E.GO_nil E.GO_func E.GOs_nil E.GOs_cons E.GPs_nil E.GPs_cons E.RW_nil E.RW_cons E.dstAt_0 E.dstAt_s E.keepL_nil E.keepL_s E.keepL_k E.rmN_nil E.rmN_cons E.memN_nil E.memN_cons E.memK_nil E.memK_cons E.ovl_nil E.ovl_kk E.ovl_sk E.ovl_ks E.ovl_ss ofL_s ofL_sk ofL_ks ofL_k ofL_nil E.CO_tmp E.CO_bool
attribute [local go_sem] E.RM_nil E.RM_cons E.kd_k E.sbr_eq E.s3_nil E.s3_s E.s3_k E.vr_c E.vr_a E.vr_p E.vr_q E.vr_t E.vr_f E.vr_u E.cr_r E.cr_v E.cr_b E.cr_n E.cr_u E.crs_nil E.crs_cons E.renK_nil E.renK_cons keysVs V.keys C.keys keysCs E.RG_nil E.RG_cons E.GV_v E.GB_true E.GB_false E.GX_b E.GG_t E.GG_f E.GG_u E.GU_some E.IX_0 E.IX_s E.CX_s E.FR_none E.EN_e E.GVB_b E.b_boolM E.b_nilM E.b_strM E.b_aggM
attribute [local go_sem] List.cons_append List.nil_append List.append_nil List.length_cons List.length_nil List.length_map List.length_append callM E.argsH_nil E.argsH_cons E.argH_c E.argH_a E.argH_f E.cellsH_nil E.cellsH_cons E.cellH_v E.cellH_b E.cellH_n E.cellH_nt E.cellH_u E.cellH_rt E.cellH_rf capsA capA callable backs backT resVs resV resC tupV lenV intV boolV getE getO entryL entryKs A.ts entryV entryC entryCs entryCap List.map_cons List.map_nil E.cut_n E.cut_r E.cutM plainL A.capOK szEs szE szT SZ whole toB toC List.drop_zero List.take_zero List.take_succ_cons List.drop_succ_cons resultsM resultM outM outM1 convs conv finAs finA finT finTs Int.toNat_natCast A.plain T.plain List.isEmpty_nil List.isEmpty_cons Bool.or_true Bool.true_or Bool.and_self List.getElem?_cons_zero List.getElem?_cons_succ Option.bind_some Option.bind_none Option.bind Nat.zero_add Nat.add_zero OWN BOR ONE SCAL DE ETA E.take_rest Int.toNat_zero E.take_map E.drop_map E.take_len1 List.take_length E.app_map Int.natCast_zero Int.sub_zero Int.toNat_sub partCells V.cells convsL appendM srcM E.scalEs_nil E.scalEs_cons E.oneEs_nil E.oneEs_cons List.all_cons List.all_nil T.one Bool.and_true gone ownEs ownE ownT borEs borE borT setRow splice List.set_cons_zero List.set_cons_succ optI getOpt sliceM ptrTo app_ofL T.isV Value.oneCell' fillC zeroC spliceC allV eqVs eqV minV maxV setAt setCell holed List.dropLast List.getLast?_singleton Option.getD_some Option.isSome_some Option.isSome_none Bool.and_false Bool.true_and Bool.false_and Option.map_some Option.map_none false_or true_or or_true rowAt cellAt E.constV_nil E.constV_int E.constV_bool E.constV_str E.setCell_set E.setCell_len setRow setAt List.dropLast_cons_cons List.dropLast_singleton List.getLast?_cons_cons
attribute [local go_sem_proc ↓] reduceIte
attribute [local go_sem_proc] Nat.reduceEqDiff reduceCtorEq Nat.reduceAdd Nat.reduceMul
attribute [local irreducible] E.argsH E.argH E.cellsH E.cellH E.GV E.GB E.GX E.GG E.GU E.IX E.CX E.RW E.FR E.EN E.CALL E.GO E.GOs E.GPs E.GVB E.KD E.RM E.RG E.CO E.WQ E.EV E.SQ E.BL E.LP E.FK E.S3 E.RK E.NEXT E.NQ E.INDEP
section
attribute [local go_sem] mdG_eq mdM toNat_pred setI List.length_set eLI_eq eLE_eq
theorem primAt_eq (c : Clu) (id : Int) : primAt c id = (hasSrv c id && primNow (at' c.srvs id.toNat) id) := rfl
theorem la_has {c : Clu} (h : validClu c = true) (h2 : (lastAct c.mast).2 = true) : hasSrv c (lastAct c.mast).1.primary = true := by
  have := conf_prim (lastAct_of h2).2.2.2.1
  simp [hasSrv, h, inR_iff, this]
theorem serv_eq2 (c : Clu) (h : validClu c = true) : servingPrim c = if (lastAct c.mast).2 && primNow (at' c.srvs (lastAct c.mast).1.primary.toNat) (lastAct c.mast).1.primary && ((at' c.srvs (lastAct c.mast).1.primary.toNat).conf.epoch == (lastAct c.mast).1.epoch) && (membersOf (lastAct c.mast).1).all (fun id => hears c (lastAct c.mast).1.primary id) then (lastAct c.mast).1.primary else -1 := by
  have e : servingPrim c = if (lastAct c.mast).2 && primAt c (lastAct c.mast).1.primary && ((at' c.srvs (lastAct c.mast).1.primary.toNat).conf.epoch == (lastAct c.mast).1.epoch) && (membersOf (lastAct c.mast).1).all (fun id => hears c (lastAct c.mast).1.primary id) then (lastAct c.mast).1.primary else -1 := rfl
  rw [e]
  by_cases h2 : (lastAct c.mast).2 = true
  · rw [primAt_eq, la_has h h2]; simp [h2]
  · simp [h2]
theorem serv_no (c : Clu) (h : validClu c = false) : servingPrim c = -1 := by
  unfold servingPrim
  dsimp only
  rw [if_neg]
  intro h2
  simp only [Bool.and_eq_true] at h2
  have := (hasSrv_of (primAt_of h2.1.1.2).1).1
  rw [h] at this; simp at this

theorem servP_s (c : Clu) (hB : CluB c) : Fn Go.Proofs.Tryz.prog 161 [.a (eClu false c)] [.a [.d, .d, .d, .d, .d, .d, .d, .d, .d, .d]] [.c (.v (vi (servingPrim c)))] := by
  refine E.Fn.ev (n := 64) mdG false mix Go.Proofs.Tryz.func161 rfl (by simp [Go.Proofs.Tryz.f161]) Go.Proofs.Tryz.ntmps161 (by simp) (by kernel_rfl) (rs := [.tmp 2]) (tys := [3]) rfl rfl (by simp [finOK, A.ts, OWN, ownE, ownT]) (by simp [resOK, A.ts, OWN, ownE, ownT, DE]) ?_
  simp only [go_sem]
  repeat' (first
    | simp only [List.cons.injEq, A.c.injEq, A.a.injEq, T.v.injEq, T.s.injEq, Value.bool.injEq, Value.int.injEq, and_true, true_and]
    | (refine E.CALL.use (lastAct_s_B _ ?_) ?_ <;> (try simp only [go_sem]))
    | (refine E.CALL.use (validClu_s_B _ ?_) ?_ <;> (try simp only [go_sem]))
    | (refine E.CALL.use (primNow_s_B _ _ ?_) ?_ <;> (try simp only [go_sem]))
    | (refine E.CALL.use (members_s_B _ ?_) ?_ <;> (try simp only [go_sem]))
    | (refine E.CALL.use (hears_s _ _ _ ?_ ?_ ?_) ?_ <;> (try simp only [go_sem]))
    | (refine E.GB.use (fun h => ?_) (fun h => ?_) <;> (simp only [go_sem, h]) <;> (try simp only [decide_eq_true_eq, decide_eq_false_iff_not, Bool.not_eq_true', Bool.not_eq_false', Bool.not_eq_true, Bool.not_eq_false, beq_iff_eq, beq_eq_false_iff_ne, bne_iff_ne, bne_eq_false_iff_eq, Int.not_lt, Int.not_le, ne_eq] at h))
    | exact E.INDEP.mk2 (by kernel_rfl)
    | exact E.RK.mk (by kernel_rfl)
    | (refine E.IX_map ?_ (fun hx => ?_); rotate_left; simp only [go_sem])
    | (refine E.loopR (ι := Nat) 6 rfl (fun i => [(.s 6, .v (.c (.v (vi i))))]) [1, 3, 5, 62, 63] [] [] (fun i => (membersOf (lastAct c.mast).1).length - i) (fun i => i ≤ (membersOf (lastAct c.mast).1).length ∧ (if ((membersOf (lastAct c.mast).1).drop i).all (fun id => hears c (lastAct c.mast).1.primary id) then (lastAct c.mast).1.primary else -1) = servingPrim c) mix (by kernel_rfl) 0 ?_ ?_ (fun i ⟨hi, hR⟩ => ?_); all_goals (try simp (maxSteps := 900000) only [go_sem]); all_goals (try dsimp only at hi hR))
    | (refine E.NEXT.use [] (i + 1) ?_ ?_ ?_; rotate_left 2; focus (simp (maxSteps := 900000) only [go_sem]; (repeat' (first | with_reducible rfl | exact E.RK.mk (by kernel_rfl) | apply And.intro | (push_cast; with_reducible rfl) | (refine E.int_c ?_; omega) | (simp only [go_sem]; done) | (rw [List.map_append]; rfl) | (simp; done) | (simp only [*]; done) | fail)); done))
    | apply And.intro
    | omega
    | (have q := members_len (lastAct c.mast).1; omega; done)
    | (have q := validClu_of (c := c) (by assumption); have q2 := conf_prim (lastAct_of (m := c.mast) (by assumption)).2.2.2.1; omega; done)
    | (exact la_has (by assumption) (by assumption); done)
    | (exact (members_in (E.at_mem (by omega))).1; done)
    | (exact (members_in (E.at_mem (by omega))).2; done)
    | (exact (CluB.at (by assumption) _); done)
    | (exact CluB.m (by assumption); done)
    | (exact (CluB.m (by assumption)).la; done)
    | (rw [drop_at (l := membersOf (lastAct c.mast).1) (i := i) (by omega)] at hR; rw [← hR]; simp [*]; done)
    | (rw [E.drop_end (l := membersOf (lastAct c.mast).1) (i := i) (by omega)] at hR; rw [← hR]; simp; done)
    | (exact (serv_no c (by assumption)).symm; done)
    | (rw [serv_eq2 c (by assumption)]; simp [*]; done)
    | fail)

theorem isServ_s (c : Clu) (hB : CluB c) : Fn Go.Proofs.Tryz.prog 74 [.a (eClu false c)] [.a [.d, .d, .d, .d, .d, .d, .d, .d, .d, .d]] [.c (.v (.bool (isServing c)))] := by
  refine E.Fn.ev (n := 6) mdG false mix Go.Proofs.Tryz.func74 rfl (by simp [Go.Proofs.Tryz.f74]) Go.Proofs.Tryz.ntmps74 (by simp) (by kernel_rfl) (rs := [.tmp 2]) (tys := [4]) rfl rfl (by simp [finOK, A.ts, OWN, ownE, ownT]) (by simp [resOK, A.ts, OWN, ownE, ownT, DE]) ?_
  simp only [go_sem]
  repeat' (first
    | simp only [List.cons.injEq, A.c.injEq, A.a.injEq, T.v.injEq, T.s.injEq, Value.bool.injEq, Value.int.injEq, and_true, true_and]
    | (refine E.CALL.use (servP_s _ ?_) ?_ <;> (try simp only [go_sem]))
    | apply And.intro
    | omega
    | (have q := serv_ge c; simp only [isServing]; rw [Bool.eq_iff_iff]; simp; omega; done)
    | fail)

end
section
attribute [local go_sem] mdG_eq mdM toNat_pred setI List.length_set eLI_eq eLE_eq
theorem hasEp_i (c : Clu) (id : Int) (o : Int) (e : Int) (hB : CluB c) (hl : c.srvs.length = 5) (hm : 0 ≤ o ∧ o ≤ 4) : Fn Go.Proofs.Tryz.prog 205 [.a (eClu false c), .c (.v (vi id)), .c (.v (vi o)), .c (.v (vi e))] [.a [.d, .d, .d, .d, .d, .d, .d, .d, .d, .d], .c .d, .c .d, .c .d] [.c (.v (.bool (hasEpoch c id o e)))] := by
  refine E.Fn.ev (n := 31) mdG false mix Go.Proofs.Tryz.func205 rfl (by simp [Go.Proofs.Tryz.f205]) Go.Proofs.Tryz.ntmps205 (by simp) (by kernel_rfl) (rs := [.tmp 8]) (tys := [4]) rfl rfl (by simp [finOK, A.ts, OWN, ownE, ownT]) (by simp [resOK, A.ts, OWN, ownE, ownT, DE]) ?_
  simp only [go_sem]
  repeat' (first
    | simp only [List.cons.injEq, A.c.injEq, A.a.injEq, T.v.injEq, T.s.injEq, Value.bool.injEq, Value.int.injEq, and_true, true_and]
    | (refine E.CALL.use (sameSide_i _ _ _ ?_) ?_ <;> (try simp only [go_sem]))
    | (refine E.GB.use (fun h => ?_) (fun h => ?_) <;> (simp only [go_sem, h]) <;> (try simp only [decide_eq_true_eq, decide_eq_false_iff_not, Bool.not_eq_true', Bool.not_eq_false', Bool.not_eq_true, Bool.not_eq_false, beq_iff_eq, beq_eq_false_iff_ne, bne_iff_ne, bne_eq_false_iff_eq, Int.not_lt, Int.not_le, ne_eq] at h))
    | (refine E.IX_map ?_ (fun hx => ?_); rotate_left; simp only [go_sem])
    | apply And.intro
    | omega
    | (exact CluB.sd (by assumption); done)
    | (simp [hasEpoch, srvAt, *]; done)
    | fail)

theorem sources_i (c : Clu) (id : Int) (hB : CluB c) : Fn Go.Proofs.Tryz.prog 204 [.a (eClu false c), .c (.v (vi id))] [.a [.d, .d, .d, .d, .d, .d, .d, .d, .d, .d], .c .d] [.c (.s true 1 ((sourcesFor c id).map eInt))] := by
  refine E.Fn.ev (n := 45) mdG false mix Go.Proofs.Tryz.func204 rfl (by simp [Go.Proofs.Tryz.f204]) Go.Proofs.Tryz.ntmps204 (by simp) (by kernel_rfl) (rs := [.tmp 4]) (tys := [23]) rfl rfl (by simp [finOK, A.ts, OWN, ownE, ownT]) (by simp [resOK, A.ts, OWN, ownE, ownT, DE]) ?_
  simp only [go_sem]
  repeat' (first
    | simp only [List.cons.injEq, A.c.injEq, A.a.injEq, T.v.injEq, T.s.injEq, Value.bool.injEq, Value.int.injEq, and_true, true_and]
    | (refine E.CALL.use (lastAct_i_B _ ?_) ?_ <;> (try simp only [go_sem]))
    | (refine E.CALL.use (hasSrv_i _ _ ?_) ?_ <;> (try simp only [go_sem]))
    | (refine E.CALL.use (hasEp_i _ _ _ _ ?_ ?_ ?_) ?_ <;> (try simp only [go_sem]))
    | (refine E.GB.use (fun h => ?_) (fun h => ?_) <;> (simp only [go_sem, h]) <;> (try simp only [decide_eq_true_eq, decide_eq_false_iff_not, Bool.not_eq_true', Bool.not_eq_false', Bool.not_eq_true, Bool.not_eq_false, beq_iff_eq, beq_eq_false_iff_ne, bne_iff_ne, bne_eq_false_iff_eq, Int.not_lt, Int.not_le, ne_eq] at h))
    | exact E.RK.mk (by kernel_rfl)
    | (refine E.IX_map ?_ (fun hx => ?_); rotate_left; simp only [go_sem])
    | (refine E.loopR (ι := Nat × List Int) 6 rfl (fun ⟨i, out⟩ => [(.s 29, .v (.c (.v (vi i)))), (.s 5, .v (.c (.r (10, 0) 0 [] 0 (out).length))), (.k (10, 0), .e ⟨0, 1, (out).map eInt⟩)]) [1, 2, 4, 6, 27, 28, 44] [(10, 0)] [] (fun ⟨i, out⟩ => ((lastAct c.mast).1.reps).length - i) (fun ⟨i, out⟩ => i ≤ ((lastAct c.mast).1.reps).length ∧ out.length ≤ i ∧ out ++ (((lastAct c.mast).1.reps).drop i).filter (fun o => hasEpoch c id o (lastAct c.mast).1.epoch) = sourcesFor c id) mix (by kernel_rfl) (0, []) ?_ ?_ (fun ⟨i, out⟩ ⟨hi, ho, hR⟩ => ?_); all_goals (try simp (maxSteps := 900000) only [go_sem]); all_goals (try dsimp only at hi ho hR))
    | (refine E.NEXT.use [] (i + 1, out) ?_ ?_ ?_; rotate_left 2; focus (simp (maxSteps := 900000) only [go_sem]; (repeat' (first | with_reducible rfl | exact E.RK.mk (by kernel_rfl) | apply And.intro | (push_cast; with_reducible rfl) | (refine E.int_c ?_; omega) | (simp only [go_sem]; done) | (rw [List.map_append]; rfl) | (simp; done) | (simp only [*]; done) | fail)); done))
    | (refine E.NEXT.use [((10, 0), (42, 0))] (i + 1, out ++ [at' (lastAct c.mast).1.reps i]) ?_ ?_ ?_; rotate_left 2; focus (simp (maxSteps := 900000) only [go_sem]; (repeat' (first | with_reducible rfl | exact E.RK.mk (by kernel_rfl) | apply And.intro | (push_cast; with_reducible rfl) | (refine E.int_c ?_; omega) | (simp only [go_sem]; done) | (rw [List.map_append]; rfl) | (simp; done) | (simp only [*]; done) | fail)); done))
    | apply And.intro
    | omega
    | (simp only [List.length_take, List.length_drop, List.length_append, List.length_set, List.length_cons, List.length_nil]; omega)
    | refine congrArg (List.map _) ?_
    | (have q := CluB.m hB; have q2 := q.la.r; omega; done)
    | (have q := hasSrv_of (c := c) (id := id) (by assumption); have q2 := conf_rep (lastAct_of (m := c.mast) (by assumption)).2.2.2.1 (E.at_mem (l := (lastAct c.mast).1.reps) (i := i) (by omega)); omega; done)
    | (rw [drop_at (l := (lastAct c.mast).1.reps) (i := i) (by omega)] at hR; simp only [List.filter_cons, h, if_true, if_false, Bool.false_eq_true] at hR; simpa using hR; done)
    | (rw [E.drop_end (l := (lastAct c.mast).1.reps) (i := i) (by omega)] at hR; simpa using hR; done)
    | (simp [sourcesFor, *]; done)
    | fail)

theorem hasEpoch_eq (c : Clu) (id o e : Int) : hasEpoch c id o e = ((at' c.srvs o.toNat).up && sameSide c.sides id o && ((at' c.srvs o.toNat).conf.epoch == e)) := rfl

theorem sources_s (c : Clu) (id : Int) (hB : CluB c) : Fn Go.Proofs.Tryz.prog 191 [.a (eClu false c), .c (.v (vi id))] [.a [.d, .d, .d, .d, .d, .d, .d, .d, .d, .d], .c .d] [.c (.s true 1 ((sourcesFor c id).map eInt))] := by
  refine E.Fn.ev (n := 74) mdG false mix Go.Proofs.Tryz.func191 rfl (by simp [Go.Proofs.Tryz.f191]) Go.Proofs.Tryz.ntmps191 (by simp) (by kernel_rfl) (rs := [.tmp 4]) (tys := [23]) rfl rfl (by simp [finOK, A.ts, OWN, ownE, ownT]) (by simp [resOK, A.ts, OWN, ownE, ownT, DE]) ?_
  simp only [go_sem]
  repeat' (first
    | simp only [List.cons.injEq, A.c.injEq, A.a.injEq, T.v.injEq, T.s.injEq, Value.bool.injEq, Value.int.injEq, and_true, true_and]
    | (refine E.CALL.use (lastAct_s_B _ ?_) ?_ <;> (try simp only [go_sem]))
    | (refine E.CALL.use (validClu_s_B _ ?_) ?_ <;> (try simp only [go_sem]))
    | (refine E.CALL.use (in_s _ _ _) ?_ <;> (try simp only [go_sem]))
    | (refine E.CALL.use (sameSide_s _ _ _ ?_) ?_ <;> (try simp only [go_sem]))
    | (refine E.GB.use (fun h => ?_) (fun h => ?_) <;> (simp only [go_sem, h]) <;> (try simp only [decide_eq_true_eq, decide_eq_false_iff_not, Bool.not_eq_true', Bool.not_eq_false', Bool.not_eq_true, Bool.not_eq_false, beq_iff_eq, beq_eq_false_iff_ne, bne_iff_ne, bne_eq_false_iff_eq, Int.not_lt, Int.not_le, ne_eq] at h))
    | exact E.INDEP.mk2 (by kernel_rfl)
    | exact E.RK.mk (by kernel_rfl)
    | (refine E.IX_map ?_ (fun hx => ?_); rotate_left; simp only [go_sem])
    | (refine E.loopR (ι := Nat × List Int) 4 rfl (fun ⟨i, out⟩ => [(.s 8, .v (.c (.v (vi i)))), (.s 5, .v (.c (.r (10, 0) 0 [] 0 (out).length))), (.k (10, 0), .e ⟨0, 1, (out).map eInt⟩)]) [1, 2, 4, 6, 7, 73] [(10, 0)] [] (fun ⟨i, out⟩ => ((lastAct c.mast).1.reps).length - i) (fun ⟨i, out⟩ => i ≤ ((lastAct c.mast).1.reps).length ∧ out.length ≤ i ∧ (if (lastAct c.mast).2 && hasSrv c id then out ++ (((lastAct c.mast).1.reps).drop i).filter (fun o => hasEpoch c id o (lastAct c.mast).1.epoch) else out) = sourcesFor c id ∧ ((lastAct c.mast).2 && hasSrv c id) = ((lastAct c.mast).2 && validClu c && inR id 0 4) ∧ (((lastAct c.mast).2 && hasSrv c id) = false → out = [])) mix (by kernel_rfl) (0, []) ?_ ?_ (fun ⟨i, out⟩ ⟨hi, ho, hR, hV, hN⟩ => ?_); all_goals (try simp (maxSteps := 900000) only [go_sem]); all_goals (try dsimp only at hi ho hR hV hN))
    | (refine E.NEXT.use [] (i + 1, out) ?_ ?_ ?_; rotate_left 2; focus (simp (maxSteps := 900000) only [go_sem]; (repeat' (first | with_reducible rfl | exact E.RK.mk (by kernel_rfl) | apply And.intro | (push_cast; with_reducible rfl) | (refine E.int_c ?_; omega) | (simp only [go_sem]; done) | (rw [List.map_append]; rfl) | (simp; done) | (simp only [*]; done) | fail)); done))
    | (refine E.NEXT.use [((10, 0), (72, 0))] (i + 1, out ++ [at' (lastAct c.mast).1.reps i]) ?_ ?_ ?_; rotate_left 2; focus (simp (maxSteps := 900000) only [go_sem]; (repeat' (first | with_reducible rfl | exact E.RK.mk (by kernel_rfl) | apply And.intro | (push_cast; with_reducible rfl) | (refine E.int_c ?_; omega) | (simp only [go_sem]; done) | (rw [List.map_append]; rfl) | (simp; done) | (simp only [*]; done) | fail)); done))
    | apply And.intro
    | omega
    | (simp only [List.length_take, List.length_drop, List.length_append, List.length_set, List.length_cons, List.length_nil]; omega)
    | refine congrArg (List.map _) ?_
    | (have q := CluB.m hB; have q2 := q.la.r; omega; done)
    | (have q := validClu_of (c := c) (by assumption); have q2 := conf_rep (lastAct_of (m := c.mast) (by assumption)).2.2.2.1 (E.at_mem (l := (lastAct c.mast).1.reps) (i := i) (by omega)); omega; done)
    | (exact CluB.sd (by assumption); done)
    | (have e : ((lastAct c.mast).2 && hasSrv c id) = true := (by simp only [hasSrv, Bool.and_eq_true]; exact ⟨by assumption, by assumption, by assumption⟩); rw [if_pos e] at hR ⊢; clear hV hN; rw [drop_at (l := (lastAct c.mast).1.reps) (i := i) (by omega)] at hR; have g : hasEpoch c id (at' (lastAct c.mast).1.reps i) (lastAct c.mast).1.epoch = true := (by rw [hasEpoch_eq]; clear hR; simp [*]); simp only [List.filter_cons, g, if_true, if_false, Bool.false_eq_true] at hR; simpa using hR; done)
    | (have e : ((lastAct c.mast).2 && hasSrv c id) = true := (by simp only [hasSrv, Bool.and_eq_true]; exact ⟨by assumption, by assumption, by assumption⟩); rw [if_pos e] at hR ⊢; clear hV hN; rw [drop_at (l := (lastAct c.mast).1.reps) (i := i) (by omega)] at hR; have g : hasEpoch c id (at' (lastAct c.mast).1.reps i) (lastAct c.mast).1.epoch = false := (by rw [hasEpoch_eq]; clear hR; simp [*]); simp only [List.filter_cons, g, if_true, if_false, Bool.false_eq_true] at hR; simpa using hR; done)
    | (rw [E.drop_end (l := (lastAct c.mast).1.reps) (i := i) (by omega)] at hR; simpa using hR; done)
    | (rw [← hR]; simp [hasSrv, *]; done)
    | (simp [sourcesFor, hasSrv, *]; done)
    | (simp [hasSrv, Bool.and_assoc]; done)
    | fail)

end
section
attribute [local go_sem] mdG_eq mdM toNat_pred setI List.length_set eLI_eq eLE_eq
theorem maySw_i (c : Clu) (to : Int) (hB : CluB c) : Fn Go.Proofs.Tryz.prog 100 [.a (eClu false c), .c (.v (vi to))] [.a [.d, .d, .d, .d, .d, .d, .d, .d, .d, .d], .c .d] [.c (.v (vi (maySwitch c to)))] := by
  refine E.Fn.ev (n := 71) mdG false mix Go.Proofs.Tryz.func100 rfl (by simp [Go.Proofs.Tryz.f100]) Go.Proofs.Tryz.ntmps100 (by simp) (by kernel_rfl) (rs := [.tmp 4]) (tys := [3]) rfl rfl (by simp [finOK, A.ts, OWN, ownE, ownT]) (by simp [resOK, A.ts, OWN, ownE, ownT, DE]) ?_
  simp only [go_sem]
  repeat' (first
    | simp only [List.cons.injEq, A.c.injEq, A.a.injEq, T.v.injEq, T.s.injEq, Value.bool.injEq, Value.int.injEq, and_true, true_and]
    | (refine E.CALL.use (lastAct_i_B _ ?_) ?_ <;> (try simp only [go_sem]))
    | (refine E.CALL.use (validClu_i _ ?_) ?_ <;> (try simp only [go_sem]))
    | (refine E.CALL.use (role_i_B _ _ ?_) ?_ <;> (try simp only [go_sem]))
    | (refine E.CALL.use (mw_i _ ?_) ?_ <;> (try simp only [go_sem]))
    | (refine E.CALL.use (isServ_i _ ?_) ?_ <;> (try simp only [go_sem]))
    | (refine E.GB.use (fun h => ?_) (fun h => ?_) <;> (simp only [go_sem, h]) <;> (try simp only [decide_eq_true_eq, decide_eq_false_iff_not, Bool.not_eq_true', Bool.not_eq_false', Bool.not_eq_true, Bool.not_eq_false, beq_iff_eq, beq_eq_false_iff_ne, bne_iff_ne, bne_eq_false_iff_eq, Int.not_lt, Int.not_le, ne_eq] at h))
    | (refine E.IX_map ?_ (fun hx => ?_); rotate_left; simp only [go_sem])
    | apply And.intro
    | omega
    | (have q := conf_prim (lastAct_of (m := c.mast) (by assumption)).2.2.2.1; have q2 := validClu_of (c := c) (by assumption); have q3 := areSides_len q2.2.2.2.1; omega; done)
    | (exact CluB.m (by assumption); done)
    | (exact (CluB.m (by assumption)).la; done)
    | (have q1 := isLease_no (by assumption); simp [maySwitch, *]; done)
    | (have q1 := isLease_ne (by assumption); simp [maySwitch, *]; done)
    | (simp [maySwitch, *]; done)
    | fail)

theorem maySw_s (c : Clu) (to : Int) (hB : CluB c) : Fn Go.Proofs.Tryz.prog 98 [.a (eClu false c), .c (.v (vi to))] [.a [.d, .d, .d, .d, .d, .d, .d, .d, .d, .d], .c .d] [.c (.v (vi (maySwitch c to)))] := by
  refine E.Fn.ev (n := 78) mdG false mix Go.Proofs.Tryz.func98 rfl (by simp [Go.Proofs.Tryz.f98]) Go.Proofs.Tryz.ntmps98 (by simp) (by kernel_rfl) (rs := [.tmp 4]) (tys := [3]) rfl rfl (by simp [finOK, A.ts, OWN, ownE, ownT]) (by simp [resOK, A.ts, OWN, ownE, ownT, DE]) ?_
  simp only [go_sem]
  repeat' (first
    | simp only [List.cons.injEq, A.c.injEq, A.a.injEq, T.v.injEq, T.s.injEq, Value.bool.injEq, Value.int.injEq, and_true, true_and]
    | (refine E.CALL.use (lastAct_s_B _ ?_) ?_ <;> (try simp only [go_sem]))
    | (refine E.CALL.use (validClu_s_B _ ?_) ?_ <;> (try simp only [go_sem]))
    | (refine E.CALL.use (has_s _ _ ?_) ?_ <;> (try simp only [go_sem]))
    | (refine E.CALL.use (isServ_s _ ?_) ?_ <;> (try simp only [go_sem]))
    | (refine E.GB.use (fun h => ?_) (fun h => ?_) <;> (simp only [go_sem, h]) <;> (try simp only [decide_eq_true_eq, decide_eq_false_iff_not, Bool.not_eq_true', Bool.not_eq_false', Bool.not_eq_true, Bool.not_eq_false, beq_iff_eq, beq_eq_false_iff_ne, bne_iff_ne, bne_eq_false_iff_eq, Int.not_lt, Int.not_le, ne_eq] at h))
    | (refine E.IX_map ?_ (fun hx => ?_); rotate_left; simp only [go_sem])
    | apply And.intro
    | omega
    | (have r4 := validClu_of (c := c) (by assumption); omega; done)
    | (have q := conf_prim (lastAct_of (m := c.mast) (by assumption)).2.2.2.1; have q2 := validClu_of (c := c) (by assumption); have q3 := areSides_len q2.2.2.2.1; omega; done)
    | (exact CluB.m (by assumption); done)
    | (exact (CluB.m (by assumption)).la.r; done)
    | (exact maySwitch_p (by assumption); done)
    | (rw [maySwitch_s]; simp only [*, reduceIte, reduceCtorEq, not_true_eq_false, not_false_eq_true, Bool.true_eq_false, Bool.false_eq_true, if_true, if_false]; done)
    | (rw [maySwitch_s]; simp only [*, ← Int.not_lt, reduceIte, reduceCtorEq, not_true_eq_false, not_false_eq_true, Bool.true_eq_false, Bool.false_eq_true, if_true, if_false]; done)
    | fail)

end
section
attribute [local go_sem] mdG_eq mdM toNat_pred setI List.length_set eLI_eq eLE_eq
theorem comPart_i (s : Srv) (hB : SrvB s) : Fn Go.Proofs.Tryz.prog 234 [.a (eSrv false s)] [.a [.d, .d, .d, .d, .d, .d, .d, .d, .d, .d, .d, .d]] [.c (.s true 7 ((comPart s).map eLEnt))] := by
  refine E.Fn.ev (n := 30) mdG true mix Go.Proofs.Tryz.func234 rfl (by simp [Go.Proofs.Tryz.f234]) Go.Proofs.Tryz.ntmps234 (by simp) (by kernel_rfl) (rs := [.tmp 2]) (tys := [64]) rfl rfl (by simp [finOK, A.ts, OWN, ownE, ownT]) (by simp [resOK, A.ts, OWN, ownE, ownT, DE]) ?_
  simp only [go_sem, binM, intBin]
  repeat' (first
    | simp only [List.cons.injEq, A.c.injEq, A.a.injEq, T.v.injEq, T.s.injEq, Value.bool.injEq, Value.int.injEq, and_true, true_and]
    | (refine E.CALL.use (in_i _ _ _) ?_ <;> (try simp only [go_sem, binM, intBin]))
    | (refine E.CALL.use (cloneE_c _ ?_) ?_ <;> (try simp only [go_sem, binM, intBin]))
    | (refine E.GB.use (fun h => ?_) (fun h => ?_) <;> (simp only [go_sem, binM, intBin, h]) <;> (try simp only [decide_eq_true_eq, decide_eq_false_iff_not, Bool.not_eq_true', Bool.not_eq_false', Bool.not_eq_true, Bool.not_eq_false, beq_iff_eq, beq_eq_false_iff_ne, bne_iff_ne, bne_eq_false_iff_eq, Int.not_lt, Int.not_le, ne_eq] at h))
    | apply And.intro
    | omega
    | refine congrArg (List.map _) ?_
    | (have q := com_ok (by omega) (by assumption) hB.log; have q2 := hB.log; omega; done)
    | (have q2 := hB.log; rw [List.length_take]; omega; done)
    | (simp [comPart, *]; done)
    | (have q := com_ok (by omega) (by assumption) hB.log; rw [q.2.2]; simp [comPart, *]; omega; done)
    | fail)

theorem comPart_s (s : Srv) (hB : SrvB s) : Fn Go.Proofs.Tryz.prog 229 [.a (eSrv false s)] [.a [.d, .d, .d, .d, .d, .d, .d, .d, .d, .d, .d, .d]] [.c (.s true 7 ((comPart s).map eLEnt))] := by
  refine E.Fn.ev (n := 30) mdG true mix Go.Proofs.Tryz.func229 rfl (by simp [Go.Proofs.Tryz.f229]) Go.Proofs.Tryz.ntmps229 (by simp) (by kernel_rfl) (rs := [.tmp 2]) (tys := [64]) rfl rfl (by simp [finOK, A.ts, OWN, ownE, ownT]) (by simp [resOK, A.ts, OWN, ownE, ownT, DE]) ?_
  simp only [go_sem, binM, intBin]
  repeat' (first
    | simp only [List.cons.injEq, A.c.injEq, A.a.injEq, T.v.injEq, T.s.injEq, Value.bool.injEq, Value.int.injEq, and_true, true_and]
    | (refine E.CALL.use (in_s _ _ _) ?_ <;> (try simp only [go_sem, binM, intBin]))
    | (refine E.CALL.use (copyL_s _ ?_) ?_ <;> (try simp only [go_sem, binM, intBin]))
    | (refine E.GB.use (fun h => ?_) (fun h => ?_) <;> (simp only [go_sem, binM, intBin, h]) <;> (try simp only [decide_eq_true_eq, decide_eq_false_iff_not, Bool.not_eq_true', Bool.not_eq_false', Bool.not_eq_true, Bool.not_eq_false, beq_iff_eq, beq_eq_false_iff_ne, bne_iff_ne, bne_eq_false_iff_eq, Int.not_lt, Int.not_le, ne_eq] at h))
    | apply And.intro
    | omega
    | refine congrArg (List.map _) ?_
    | (have q := com_ok (by omega) (by assumption) hB.log; have q2 := hB.log; omega; done)
    | (have q2 := hB.log; rw [List.length_take]; omega; done)
    | (simp [comPart, *]; done)
    | (have q := com_ok (by omega) (by assumption) hB.log; rw [q.2.2]; simp [comPart, *]; omega; done)
    | fail)

theorem isRep_i (s : Srv) (id : Int) (hB : SrvB s) : Fn Go.Proofs.Tryz.prog 187 [.a (eSrv false s), .c (.v (vi id))] [.a [.d, .d, .d, .d, .d, .d, .d, .d, .d, .d, .d, .d], .c .d] [.c (.v (.bool (isRep s id)))] := by
  refine E.Fn.ev (n := 10) mdG false mix Go.Proofs.Tryz.func187 rfl (by simp [Go.Proofs.Tryz.f187]) Go.Proofs.Tryz.ntmps187 (by simp) (by kernel_rfl) (rs := [.tmp 4]) (tys := [4]) rfl rfl (by simp [finOK, A.ts, OWN, ownE, ownT]) (by simp [resOK, A.ts, OWN, ownE, ownT, DE]) ?_
  simp only [go_sem]
  repeat' (first
    | simp only [List.cons.injEq, A.c.injEq, A.a.injEq, T.v.injEq, T.s.injEq, Value.bool.injEq, Value.int.injEq, and_true, true_and]
    | (refine E.CALL.use (has_i _ _ ?_) ?_ <;> (try simp only [go_sem]))
    | apply And.intro
    | omega
    | (exact (SrvB.conf (by assumption)).r; done)
    | (rfl; done)
    | fail)

end
section
attribute [local go_sem] mdG_eq mdM toNat_pred setI List.length_set eLI_eq eLE_eq
theorem propN_i (c : Clu) (x : Conf) (hB : CluB c) (hX : ConfB x) : Fn Go.Proofs.Tryz.prog 83 [.a (eClu false c), .a (eConf false x)] [.a [.d, .d, .d, .d, .d, .d, .d, .d, .d, .d], .a [.d, .d, .d, .d]] [.a (eClu true ((proposeN c x).1)), .c (.v (vi ((proposeN c x).2)))] := by
  refine E.Fn.ev (n := 32) mdG false mix Go.Proofs.Tryz.func83 rfl (by simp [Go.Proofs.Tryz.f83]) Go.Proofs.Tryz.ntmps83 (by simp) (by kernel_rfl) (rs := [.cell 4 40, .tmp 5]) (tys := [40, 3]) rfl rfl (by simp [finOK, A.ts, OWN, ownE, ownT]) (by simp [resOK, A.ts, OWN, ownE, ownT, DE]) ?_
  simp only [go_sem]
  repeat' (first
    | simp only [List.cons.injEq, A.c.injEq, A.a.injEq, T.v.injEq, T.s.injEq, Value.bool.injEq, Value.int.injEq, and_true, true_and]
    | (refine E.CALL.use (copyU_i_B _ ?_) ?_ <;> (try simp only [go_sem]))
    | (refine E.CALL.use (validClu_i _ ?_) ?_ <;> (try simp only [go_sem]))
    | (refine E.CALL.use (mw_i _ ?_) ?_ <;> (try simp only [go_sem]))
    | (refine E.CALL.use (propose_i_B _ _ ?_ ?_) ?_ <;> (try simp only [go_sem]))
    | (refine E.GB.use (fun h => ?_) (fun h => ?_) <;> (simp only [go_sem, h]) <;> (try simp only [decide_eq_true_eq, decide_eq_false_iff_not, Bool.not_eq_true', Bool.not_eq_false', Bool.not_eq_true, Bool.not_eq_false, beq_iff_eq, beq_eq_false_iff_ne, bne_iff_ne, bne_eq_false_iff_eq, Int.not_lt, Int.not_le, ne_eq] at h))
    | apply And.intro
    | omega
    | refine congrArg (List.map _) ?_
    | (exact CluB.m (by assumption); done)
    | (simp only [propN_1 (by (first | assumption | (simp only [masters_iff]; simp only [decide_eq_true_eq, decide_eq_false_iff_not]; omega) | (rw [primAt_0 (by assumption)]; assumption) | (left; simp only [masters_iff]; simp only [decide_eq_true_eq, decide_eq_false_iff_not]; omega) | (left; assumption) | (right; assumption) | omega | (simp only [Bool.not_eq_true, Bool.not_eq_false] at *; assumption))), setLease, setMast, setLog, setCommit, setTail, setSrv, srvAt]; done)
    | (simp only [propN_2 (by (first | assumption | (simp only [masters_iff]; simp only [decide_eq_true_eq, decide_eq_false_iff_not]; omega) | (rw [primAt_0 (by assumption)]; assumption) | (left; simp only [masters_iff]; simp only [decide_eq_true_eq, decide_eq_false_iff_not]; omega) | (left; assumption) | (right; assumption) | omega | (simp only [Bool.not_eq_true, Bool.not_eq_false] at *; assumption))) (by (first | assumption | (simp only [masters_iff]; simp only [decide_eq_true_eq, decide_eq_false_iff_not]; omega) | (rw [primAt_0 (by assumption)]; assumption) | (left; simp only [masters_iff]; simp only [decide_eq_true_eq, decide_eq_false_iff_not]; omega) | (left; assumption) | (right; assumption) | omega | (simp only [Bool.not_eq_true, Bool.not_eq_false] at *; assumption))), setLease, setMast, setLog, setCommit, setTail, setSrv, srvAt]; done)
    | (simp only [propN_3 (by (first | assumption | (simp only [masters_iff]; simp only [decide_eq_true_eq, decide_eq_false_iff_not]; omega) | (rw [primAt_0 (by assumption)]; assumption) | (left; simp only [masters_iff]; simp only [decide_eq_true_eq, decide_eq_false_iff_not]; omega) | (left; assumption) | (right; assumption) | omega | (simp only [Bool.not_eq_true, Bool.not_eq_false] at *; assumption))) (by (first | assumption | (simp only [masters_iff]; simp only [decide_eq_true_eq, decide_eq_false_iff_not]; omega) | (rw [primAt_0 (by assumption)]; assumption) | (left; simp only [masters_iff]; simp only [decide_eq_true_eq, decide_eq_false_iff_not]; omega) | (left; assumption) | (right; assumption) | omega | (simp only [Bool.not_eq_true, Bool.not_eq_false] at *; assumption))) (by (first | assumption | (simp only [masters_iff]; simp only [decide_eq_true_eq, decide_eq_false_iff_not]; omega) | (rw [primAt_0 (by assumption)]; assumption) | (left; simp only [masters_iff]; simp only [decide_eq_true_eq, decide_eq_false_iff_not]; omega) | (left; assumption) | (right; assumption) | omega | (simp only [Bool.not_eq_true, Bool.not_eq_false] at *; assumption))), setLease, setMast, setLog, setCommit, setTail, setSrv, srvAt]; done)
    | (simp only [propN_4 (by (first | assumption | (simp only [masters_iff]; simp only [decide_eq_true_eq, decide_eq_false_iff_not]; omega) | (rw [primAt_0 (by assumption)]; assumption) | (left; simp only [masters_iff]; simp only [decide_eq_true_eq, decide_eq_false_iff_not]; omega) | (left; assumption) | (right; assumption) | omega | (simp only [Bool.not_eq_true, Bool.not_eq_false] at *; assumption))) (by (first | assumption | (simp only [masters_iff]; simp only [decide_eq_true_eq, decide_eq_false_iff_not]; omega) | (rw [primAt_0 (by assumption)]; assumption) | (left; simp only [masters_iff]; simp only [decide_eq_true_eq, decide_eq_false_iff_not]; omega) | (left; assumption) | (right; assumption) | omega | (simp only [Bool.not_eq_true, Bool.not_eq_false] at *; assumption))) (by (first | assumption | (simp only [masters_iff]; simp only [decide_eq_true_eq, decide_eq_false_iff_not]; omega) | (rw [primAt_0 (by assumption)]; assumption) | (left; simp only [masters_iff]; simp only [decide_eq_true_eq, decide_eq_false_iff_not]; omega) | (left; assumption) | (right; assumption) | omega | (simp only [Bool.not_eq_true, Bool.not_eq_false] at *; assumption))), setLease, setMast, setLog, setCommit, setTail, setSrv, srvAt]; done)
    | fail)

theorem propN_s (c : Clu) (x : Conf) (hB : CluB c) (hX : ConfB x) : Fn Go.Proofs.Tryz.prog 76 [.a (eClu false c), .a (eConf false x)] [.a [.d, .d, .d, .d, .d, .d, .d, .d, .d, .d], .a [.d, .d, .d, .d]] [.a (eClu true ((proposeN c x).1)), .c (.v (vi ((proposeN c x).2)))] := by
  refine E.Fn.ev (n := 33) mdG false mix Go.Proofs.Tryz.func76 rfl (by simp [Go.Proofs.Tryz.f76]) Go.Proofs.Tryz.ntmps76 (by simp) (by kernel_rfl) (rs := [.cell 4 40, .tmp 5]) (tys := [40, 3]) rfl rfl (by simp [finOK, A.ts, OWN, ownE, ownT]) (by simp [resOK, A.ts, OWN, ownE, ownT, DE]) ?_
  simp only [go_sem]
  repeat' (first
    | simp only [List.cons.injEq, A.c.injEq, A.a.injEq, T.v.injEq, T.s.injEq, Value.bool.injEq, Value.int.injEq, and_true, true_and]
    | (refine E.CALL.use (copyU_s_B _ ?_) ?_ <;> (try simp only [go_sem]))
    | (refine E.CALL.use (validClu_s_B _ ?_) ?_ <;> (try simp only [go_sem]))
    | (refine E.CALL.use (propose_s_B _ _ ?_ ?_) ?_ <;> (try simp only [go_sem]))
    | (refine E.GB.use (fun h => ?_) (fun h => ?_) <;> (simp only [go_sem, h]) <;> (try simp only [decide_eq_true_eq, decide_eq_false_iff_not, Bool.not_eq_true', Bool.not_eq_false', Bool.not_eq_true, Bool.not_eq_false, beq_iff_eq, beq_eq_false_iff_ne, bne_iff_ne, bne_eq_false_iff_eq, Int.not_lt, Int.not_le, ne_eq] at h))
    | apply And.intro
    | omega
    | refine congrArg (List.map _) ?_
    | (have r4 := validClu_of (c := c) (by assumption); omega; done)
    | (exact CluB.m (by assumption); done)
    | (simp only [propN_1 (by (first | assumption | (simp only [masters_iff]; simp only [decide_eq_true_eq, decide_eq_false_iff_not]; omega) | (rw [primAt_0 (by assumption)]; assumption) | (left; simp only [masters_iff]; simp only [decide_eq_true_eq, decide_eq_false_iff_not]; omega) | (left; assumption) | (right; assumption) | omega | (simp only [Bool.not_eq_true, Bool.not_eq_false] at *; assumption))), setLease, setMast, setLog, setCommit, setTail, setSrv, srvAt]; done)
    | (simp only [propN_2 (by (first | assumption | (simp only [masters_iff]; simp only [decide_eq_true_eq, decide_eq_false_iff_not]; omega) | (rw [primAt_0 (by assumption)]; assumption) | (left; simp only [masters_iff]; simp only [decide_eq_true_eq, decide_eq_false_iff_not]; omega) | (left; assumption) | (right; assumption) | omega | (simp only [Bool.not_eq_true, Bool.not_eq_false] at *; assumption))) (by (first | assumption | (simp only [masters_iff]; simp only [decide_eq_true_eq, decide_eq_false_iff_not]; omega) | (rw [primAt_0 (by assumption)]; assumption) | (left; simp only [masters_iff]; simp only [decide_eq_true_eq, decide_eq_false_iff_not]; omega) | (left; assumption) | (right; assumption) | omega | (simp only [Bool.not_eq_true, Bool.not_eq_false] at *; assumption))), setLease, setMast, setLog, setCommit, setTail, setSrv, srvAt]; done)
    | (simp only [propN_3 (by (first | assumption | (simp only [masters_iff]; simp only [decide_eq_true_eq, decide_eq_false_iff_not]; omega) | (rw [primAt_0 (by assumption)]; assumption) | (left; simp only [masters_iff]; simp only [decide_eq_true_eq, decide_eq_false_iff_not]; omega) | (left; assumption) | (right; assumption) | omega | (simp only [Bool.not_eq_true, Bool.not_eq_false] at *; assumption))) (by (first | assumption | (simp only [masters_iff]; simp only [decide_eq_true_eq, decide_eq_false_iff_not]; omega) | (rw [primAt_0 (by assumption)]; assumption) | (left; simp only [masters_iff]; simp only [decide_eq_true_eq, decide_eq_false_iff_not]; omega) | (left; assumption) | (right; assumption) | omega | (simp only [Bool.not_eq_true, Bool.not_eq_false] at *; assumption))) (by (first | assumption | (simp only [masters_iff]; simp only [decide_eq_true_eq, decide_eq_false_iff_not]; omega) | (rw [primAt_0 (by assumption)]; assumption) | (left; simp only [masters_iff]; simp only [decide_eq_true_eq, decide_eq_false_iff_not]; omega) | (left; assumption) | (right; assumption) | omega | (simp only [Bool.not_eq_true, Bool.not_eq_false] at *; assumption))), setLease, setMast, setLog, setCommit, setTail, setSrv, srvAt]; done)
    | (simp only [propN_4 (by (first | assumption | (simp only [masters_iff]; simp only [decide_eq_true_eq, decide_eq_false_iff_not]; omega) | (rw [primAt_0 (by assumption)]; assumption) | (left; simp only [masters_iff]; simp only [decide_eq_true_eq, decide_eq_false_iff_not]; omega) | (left; assumption) | (right; assumption) | omega | (simp only [Bool.not_eq_true, Bool.not_eq_false] at *; assumption))) (by (first | assumption | (simp only [masters_iff]; simp only [decide_eq_true_eq, decide_eq_false_iff_not]; omega) | (rw [primAt_0 (by assumption)]; assumption) | (left; simp only [masters_iff]; simp only [decide_eq_true_eq, decide_eq_false_iff_not]; omega) | (left; assumption) | (right; assumption) | omega | (simp only [Bool.not_eq_true, Bool.not_eq_false] at *; assumption))) (by (first | assumption | (simp only [masters_iff]; simp only [decide_eq_true_eq, decide_eq_false_iff_not]; omega) | (rw [primAt_0 (by assumption)]; assumption) | (left; simp only [masters_iff]; simp only [decide_eq_true_eq, decide_eq_false_iff_not]; omega) | (left; assumption) | (right; assumption) | omega | (simp only [Bool.not_eq_true, Bool.not_eq_false] at *; assumption))), setLease, setMast, setLog, setCommit, setTail, setSrv, srvAt]; done)
    | fail)

end
section
attribute [local go_sem] mdG_eq mdM toNat_pred setI List.length_set mdL_eq E.b_rem decE_self decN_self mkL_len mkL_at List.set_set E.rawCs_nil E.rawCs_s E.rawCs_v E.take_s markI_len markE_len
theorem markU_l (a : Clu) (k : Int) (hB : CluB a) (hk : 0 ≤ k) (hk2 : k ≤ 72057594037927936) : Fn Go.Proofs.Tryz.prog 14 [.a (eClu true a), .c (.v (vi k))] [.a [.d, .s true 12 ((markSs a.srvs k).map (eSrv true)), .s true 1 ((markI a.sides (endSs a.srvs k)).map eInt), .s true 4 ((markCs a.mast.confs (endSs a.srvs k + a.sides.length)).map (eConf true)), .d, .d, .d, .d, .d, .s true 3 ((markP a.plcs (endCs a.mast.confs (endSs a.srvs k + a.sides.length))).map ePlc)], .c .d] [.c (.v (vi (endU a k)))] := by
  refine E.Fn.evH (n := 22) Go.Proofs.Tryz.func14 rfl (by simp [Go.Proofs.Tryz.f14]) Go.Proofs.Tryz.ntmps14 (by simp) (rs := [.tmp 4]) (tys := [3]) rfl rfl (by simp [finOK, A.ts, OWN, ownE, ownT, DE]) (by simp [resOK, A.ts, OWN, ownE, ownT, DE]) (fun H rv hR => ?_)
  have hR0 : ∀ j sz es, (eClu true a)[j]? = some (.s true sz es) → (rv j).oneCell' = true := fun j sz es h => (hR j sz es h).one
  have r1 := hR 1 _ _ rfl
  have q1 := r1.one
  have r2 := hR 2 _ _ rfl
  have q2 := r2.one
  have r3 := hR 3 _ _ rfl
  have q3 := r3.one
  have r9 := hR 9 _ _ rfl
  have q9 := r9.one
  clear hR hR0
  simp only [go_sem]
  repeat' (first
    | (refine E.CALL.use (markSs_l _ _ ?_ ?_ ?_ ?_) ?_ <;> (try simp only [go_sem]))
    | (refine E.CALL.use (markI_l _ _ ?_ ?_ ?_) ?_ <;> (try simp only [go_sem]))
    | (refine E.CALL.use (markM_l _ _ ?_ ?_ ?_) ?_ <;> (try simp only [go_sem]))
    | (refine E.CALL.use (markP_l _ _ ?_ ?_ ?_) ?_ <;> (try simp only [go_sem]))
    | simp only [List.cons.injEq, A.c.injEq, A.a.injEq, T.v.injEq, T.s.injEq, Value.bool.injEq, Value.int.injEq, and_true, true_and]
    | (refine E.evh_seq ?_; refine E.evh_reg (id := 0) mdL false (by rfl) ?_; simp only [go_sem])
    | (refine E.evh_seq ?_; refine E.evh_conv (id := 1) mdL false 3 6 [some (0, 1)] (by rfl) ?_; dsimp only [List.take, List.drop]; simp only [go_sem])
    | (apply E.CVT.use1 (t := 6); exact rfl; exact rfl; exact r1; simp only [go_sem])
    | (refine E.evh_seq ?_; refine E.evh_conv (id := 2) mdL false 3 10 [some (0, 2)] (by rfl) ?_; dsimp only [List.take, List.drop]; simp only [go_sem])
    | (apply E.CVT.use1 (t := 10); exact rfl; exact rfl; exact r2; simp only [go_sem])
    | (refine E.evh_seq ?_; refine E.evh_conv (id := 3) mdL false 3 14 [some (0, 3), none] (by rfl) ?_; dsimp only [List.take, List.drop]; simp only [go_sem])
    | (apply E.CVT.useA (t := 14); exact rfl; exact ⟨_, _, _, rfl, rfl, r3, rfl, ⟨_, rfl, rfl⟩⟩; simp only [go_sem])
    | (refine E.evh_seq ?_; refine E.evh_conv (id := 4) mdL false 3 18 [some (0, 9)] (by rfl) ?_; dsimp only [List.take, List.drop]; simp only [go_sem])
    | (apply E.CVT.use1 (t := 18); exact rfl; exact rfl; exact r9; simp only [go_sem])
    | (refine E.evh_seq ?_; refine E.evh_reg (id := 5) mdL false (by rfl) ?_; simp only [go_sem])
    | (refine E.evh_ret ?_; simp only [go_sem])
    | apply And.intro
    | omega
    | (exact hB.srvs; done)
    | (assumption; done)
    | (exact CluB.m (by assumption); done)
    | (exact CluB.sd (by assumption); done)
    | (exact CluB.pl (by assumption); done)
    | (exact CluB.sl (by assumption); done)
    | (have g1 := hB.sl; have g2 := hB.sd; have g3 := hB.m.len; have g4 := hB.pl; have a1 := endSs_le a.srvs k hB.srvs; have b1 := endSs_ge a.srvs k; omega; done)
    | (have g1 := hB.sl; have g2 := hB.sd; have g3 := hB.m.len; have g4 := hB.pl; have a1 := endSs_le a.srvs k hB.srvs; have b1 := endSs_ge a.srvs k; have a2 := endCs_le a.mast.confs (endSs a.srvs k + a.sides.length) hB.m.confs; have b2 := endCs_ge a.mast.confs (endSs a.srvs k + a.sides.length); omega; done)
    | (rfl; done)
    | (exact markCs_len _ _; done)
    | (exact markSs_len _ _; done)
    | (exact markP_len _ _; done)
    | fail)

end

end Go.Abs

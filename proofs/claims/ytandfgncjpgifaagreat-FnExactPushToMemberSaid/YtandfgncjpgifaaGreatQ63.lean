/- Contracts of functions of the program, over the abstract machine, and facts for them. No condition. -/
import Derived.Test.YtandfgncjpgifaaGreatFacts
import Derived.Test.YtandfgncjpgifaaGreatPure19
import Derived.Test.YtandfgncjpgifaaGreatQ10
import Derived.Test.YtandfgncjpgifaaGreatQ13
import Derived.Test.YtandfgncjpgifaaGreatQ16
import Derived.Test.YtandfgncjpgifaaGreatQ24
import Derived.Test.YtandfgncjpgifaaGreatQ3
import Derived.Test.YtandfgncjpgifaaGreatQ31
import Derived.Test.YtandfgncjpgifaaGreatQ4
import Derived.Test.YtandfgncjpgifaaGreatQ8
set_option linter.unusedVariables false
set_option linter.unusedSimpArgs false
set_option linter.unnecessarySimpa false
set_option linter.constructorNameAsVariable false
set_option maxHeartbeats 4000000
set_option maxRecDepth 100000
namespace Go.Abs
open Go
attribute [local go_sem ↓] E.argsA_h E.wq_ret E.wq_req E.wq_bad E.wq_call E.wq_get E.wq_getO E.wq_getOs E.wq_getPs E.wq_fresh E.wq_anyNil E.wq_getR0 E.wq_getR E.wq_ixM E.wq_n E.wq_g E.wq_gn E.ev_skip E.ev_region E.ev_draw E.ev_seq E.ev_cond E.ev_block E.ev_exit E.ev_ret E.sq_n E.sq_e E.sq_r E.bl_n E.bl_e E.bl_r E.lp_n E.lp_e E.lp_r E.fk_n E.fk_r E.q_move E.q_assign E.q_pick E.q_bin E.q_binw E.q_un E.q_alloc E.q_box E.q_build E.q_buildS E.q_makeS E.q_load E.q_store E.q_nilCheck E.q_slice E.q_fieldAddr E.q_field E.q_indexAddr E.q_extract E.q_makeFunc E.q_call E.q_callT E.q_len E.q_append E.q_min E.q_max E.q_convert E.q_cap E.q_clear appendIM appendZM E.b_add E.b_sub E.b_mul E.b_eql E.b_neq E.b_lss E.b_leq E.b_gtr E.b_geq E.GO_tmp E.GO_int E.GO_bool E.GO_str E.GO_nil E.GO_func E.GOs_nil E.GOs_cons E.GPs_nil E.GPs_cons E.RW_nil E.RW_cons E.dstAt_0 E.dstAt_s E.keepL_nil E.keepL_s E.keepL_k E.rmN_nil E.rmN_cons E.memN_nil E.memN_cons E.memK_nil E.memK_cons E.ovl_nil E.ovl_kk E.ovl_sk E.ovl_ks E.ovl_ss ofL_s ofL_sk ofL_ks ofL_k ofL_nil E.CO_tmp E.CO_bool
attribute [local go_sem] E.RM_nil E.RM_cons E.kd_k E.sbr_eq E.s3_nil E.s3_s E.s3_k E.vr_c E.vr_a E.vr_p E.vr_q E.vr_t E.vr_f E.vr_u E.cr_r E.cr_v E.cr_b E.cr_n E.cr_u E.crs_nil E.crs_cons E.renK_nil E.renK_cons keysVs V.keys C.keys keysCs E.RG_nil E.RG_cons E.GV_v E.GB_true E.GB_false E.GX_b E.GG_t E.GG_f E.GG_u E.GU_some E.IX_0 E.IX_s E.CX_s E.FR_none E.EN_e E.GVB_b E.b_boolM E.b_nilM E.b_strM E.b_aggM
attribute [local go_sem] List.cons_append List.nil_append List.append_nil List.length_cons List.length_nil List.length_map List.length_append callM E.argsH_nil E.argsH_cons E.argH_c E.argH_a E.argH_f E.cellsH_nil E.cellsH_cons E.cellH_v E.cellH_b E.cellH_n E.cellH_nt E.cellH_u E.cellH_rt E.cellH_rf capsA capA callable backs backT resVs resV resC tupV lenV intV boolV getE getO entryL entryKs A.ts entryV entryC entryCs entryCap List.map_cons List.map_nil E.cut_n E.cut_r E.cutM plainL A.capOK szEs szE szT SZ whole toB toC List.drop_zero List.take_zero List.take_succ_cons List.drop_succ_cons resultsM resultM outM outM1 convs conv finAs finA finT finTs Int.toNat_natCast A.plain T.plain List.isEmpty_nil List.isEmpty_cons Bool.or_true Bool.true_or Bool.and_self List.getElem?_cons_zero List.getElem?_cons_succ Option.bind_some Option.bind_none Option.bind Nat.zero_add Nat.add_zero OWN BOR ONE SCAL DE ETA E.take_rest Int.toNat_zero E.take_map E.drop_map E.take_len1 List.take_length E.app_map Int.natCast_zero Int.sub_zero Int.toNat_sub partCells V.cells convsL appendM srcM E.scalEs_nil E.scalEs_cons E.oneEs_nil E.oneEs_cons List.all_cons List.all_nil T.one Bool.and_true gone ownEs ownE ownT borEs borE borT setRow splice List.set_cons_zero List.set_cons_succ optI getOpt sliceM ptrTo app_ofL T.isV Value.oneCell' fillC zeroC spliceC allV eqVs eqV minV maxV setAt setCell holed List.dropLast List.getLast?_singleton Option.getD_some Option.isSome_some Option.isSome_none Bool.and_false Bool.true_and Bool.false_and Option.map_some Option.map_none false_or true_or or_true rowAt cellAt E.constV_nil E.constV_int E.constV_bool E.constV_str E.setCell_set E.setCell_len setRow setAt List.dropLast_cons_cons List.dropLast_singleton List.getLast?_cons_cons
attribute [local go_sem_proc ↓] reduceIte
attribute [local go_sem_proc] Nat.reduceEqDiff reduceCtorEq Nat.reduceAdd Nat.reduceMul
attribute [local irreducible] E.argsH E.argH E.cellsH E.cellH E.GV E.GB E.GX E.GG E.GU E.IX E.CX E.RW E.FR E.EN E.CALL E.GO E.GOs E.GPs E.GVB E.KD E.RM E.RG E.CO E.WQ E.EV E.SQ E.BL E.LP E.FK E.S3 E.RK E.NEXT E.NQ E.INDEP
section
attribute [local go_sem] mdG_eq mdM toNat_pred setI List.length_set mdL_eq E.b_rem
theorem sealM_i (c : Clu) (id : Int) (e : Int) (hB : CluB c) : Fn Go.Proofs.Tryz.prog 50 [.a (eClu false c), .c (.v (vi id)), .c (.v (vi e))] [.a [.d, .d, .d, .d, .d, .d, .d, .d, .d, .d], .c .d, .c .d] [.a (eClu true (sealM c id e))] := by
  refine E.Fn.ev (n := 73) mdL false mix Go.Proofs.Tryz.func50 rfl (by simp [Go.Proofs.Tryz.f50]) Go.Proofs.Tryz.ntmps50 (by simp) (by kernel_rfl) (rs := [.cell 6 40]) (tys := [40]) rfl rfl (by simp [finOK, A.ts, OWN, ownE, ownT]) (by simp [resOK, A.ts, OWN, ownE, ownT, DE]) ?_
  simp only [go_sem]
  repeat' (first
    | simp only [List.cons.injEq, A.c.injEq, A.a.injEq, T.v.injEq, T.s.injEq, Value.bool.injEq, Value.int.injEq, and_true, true_and]
    | (refine E.CALL.use (copyU_i_B _ ?_) ?_ <;> (try simp only [go_sem]))
    | (refine E.CALL.use (lastAct_i_B _ ?_) ?_ <;> (try simp only [go_sem]))
    | (refine E.CALL.use (validClu_i _ ?_) ?_ <;> (try simp only [go_sem]))
    | (refine E.CALL.use (in_i _ _ _) ?_ <;> (try simp only [go_sem]))
    | (refine E.CALL.use (members_i_B _ ?_) ?_ <;> (try simp only [go_sem]))
    | (refine E.CALL.use (sameSide_i _ _ _ ?_) ?_ <;> (try simp only [go_sem]))
    | (refine E.CALL.use (seal_i _ _ ?_) ?_ <;> (try simp only [go_sem]))
    | (refine E.GB.use (fun h => ?_) (fun h => ?_) <;> (simp only [go_sem, h]) <;> (try simp only [decide_eq_true_eq, decide_eq_false_iff_not, Bool.not_eq_true', Bool.not_eq_false', Bool.not_eq_true, Bool.not_eq_false, beq_iff_eq, beq_eq_false_iff_ne, bne_iff_ne, bne_eq_false_iff_eq, Int.not_lt, Int.not_le, ne_eq] at h))
    | exact E.INDEP.mk2 (by kernel_rfl)
    | exact E.RK.mk (by kernel_rfl)
    | (refine E.IX_map ?_ (fun hx => ?_); rotate_left; simp only [go_sem])
    | (refine E.loopR (ι := Nat × Nat × List Srv) 6 rfl (fun ⟨i, v, s⟩ => [(.s 40, .v (.c (.v (vi i)))), (.k (7, 0), .e ⟨v, 10, [[.v (vi c.now), .s true 12 ((s).map (eSrv true)), .s true 1 (c.sides.map eInt), .s true 4 (c.mast.confs.map (eConf true)), .v (vi c.mast.act), .v (vi c.mup), .v (vi c.lse.epoch), .v (vi c.lse.holder), .v (vi c.lse.til), .s true 3 (c.plcs.map ePlc)]]⟩)]) [1, 2, 3, 6, 7, 38, 39, 72] [(7, 0)] [] (fun ⟨i, v, s⟩ => (membersOf (lastAct c.mast).1).length - i) (fun ⟨i, v, s⟩ => i ≤ (membersOf (lastAct c.mast).1).length ∧ SealI c id e (membersOf (lastAct c.mast).1) i s) mix (by kernel_rfl) (0, 1, c.srvs) ?_ ?_ (fun ⟨i, v, s⟩ ⟨hi, hQ⟩ => ?_); all_goals (try simp (maxSteps := 900000) only [go_sem]); all_goals (try dsimp only at hi hQ))
    | (refine E.NEXT.use [] (i + 1, v + 1, s.set (at' (membersOf (lastAct c.mast).1) i).toNat (sealS (at' s (at' (membersOf (lastAct c.mast).1) i).toNat) e).1) ?_ ?_ ?_; rotate_left 2; focus (simp (maxSteps := 900000) only [go_sem]; (repeat' (first | with_reducible rfl | exact E.RK.mk (by kernel_rfl) | apply And.intro | (push_cast; with_reducible rfl) | (refine E.int_c ?_; omega) | (simp only [go_sem]; done) | (rw [List.map_append]; rfl) | (simp; done) | (simp only [*]; done) | (rw [List.map_set]; rfl; done) | fail)); done))
    | (refine E.NEXT.use [] (i + 1, v, s) ?_ ?_ ?_; rotate_left 2; focus (simp (maxSteps := 900000) only [go_sem]; (repeat' (first | with_reducible rfl | exact E.RK.mk (by kernel_rfl) | apply And.intro | (push_cast; with_reducible rfl) | (refine E.int_c ?_; omega) | (simp only [go_sem]; done) | (rw [List.map_append]; rfl) | (simp; done) | (simp only [*]; done) | (rw [List.map_set]; rfl; done) | fail)); done))
    | apply And.intro
    | omega
    | refine congrArg (List.map _) ?_
    | (have q := members_len (lastAct c.mast).1; omega; done)
    | (have q := members_at (c := (lastAct c.mast).1) (i := i) (by omega); have q2 := validClu_of (c := c) (by assumption); have q3 := hQ.len; omega; done)
    | (exact .start hB; done)
    | (exact hQ.yes (by omega) (by assumption) (by assumption); done)
    | (exact hQ.no (by omega) (.inl (by assumption)); done)
    | (exact hQ.no (by omega) (.inr (by assumption)); done)
    | (exact srvB_at hQ.b _; done)
    | (exact CluB.m (by assumption); done)
    | (exact CluB.sd (by assumption); done)
    | (exact (CluB.m (by assumption)).la; done)
    | ((have q9 := congrArg (fun x : Clu => x.now) (hQ.finM (by omega) (by assumption) (by assumption) (by assumption)); exact q9); done)
    | ((have q9 := congrArg (fun x : Clu => x.srvs) (hQ.finM (by omega) (by assumption) (by assumption) (by assumption)); exact q9); done)
    | ((have q9 := congrArg (fun x : Clu => x.sides) (hQ.finM (by omega) (by assumption) (by assumption) (by assumption)); exact q9); done)
    | ((have q9 := congrArg (fun x : Clu => x.mast.confs) (hQ.finM (by omega) (by assumption) (by assumption) (by assumption)); exact q9); done)
    | ((have q9 := congrArg (fun x : Clu => x.mast.act) (hQ.finM (by omega) (by assumption) (by assumption) (by assumption)); exact q9); done)
    | ((have q9 := congrArg (fun x : Clu => x.mup) (hQ.finM (by omega) (by assumption) (by assumption) (by assumption)); exact q9); done)
    | ((have q9 := congrArg (fun x : Clu => x.lse.epoch) (hQ.finM (by omega) (by assumption) (by assumption) (by assumption)); exact q9); done)
    | ((have q9 := congrArg (fun x : Clu => x.lse.holder) (hQ.finM (by omega) (by assumption) (by assumption) (by assumption)); exact q9); done)
    | ((have q9 := congrArg (fun x : Clu => x.lse.til) (hQ.finM (by omega) (by assumption) (by assumption) (by assumption)); exact q9); done)
    | ((have q9 := congrArg (fun x : Clu => x.plcs) (hQ.finM (by omega) (by assumption) (by assumption) (by assumption)); exact q9); done)
    | (rw [sealM_n (.inl (by assumption))]; done)
    | (rw [sealM_n (.inr (.inl (by assumption)))]; done)
    | (rw [sealM_n (.inr (.inr (by assumption)))]; done)
    | fail)

theorem sealM_s (c : Clu) (id : Int) (e : Int) (hB : CluB c) : Fn Go.Proofs.Tryz.prog 34 [.a (eClu false c), .c (.v (vi id)), .c (.v (vi e))] [.a [.d, .d, .d, .d, .d, .d, .d, .d, .d, .d], .c .d, .c .d] [.a (eClu true (sealM c id e))] := by
  refine E.Fn.ev (n := 85) mdL false mix Go.Proofs.Tryz.func34 rfl (by simp [Go.Proofs.Tryz.f34]) Go.Proofs.Tryz.ntmps34 (by simp) (by kernel_rfl) (rs := [.cell 6 40]) (tys := [40]) rfl rfl (by simp [finOK, A.ts, OWN, ownE, ownT]) (by simp [resOK, A.ts, OWN, ownE, ownT, DE]) ?_
  simp only [go_sem]
  repeat' (first
    | simp only [List.cons.injEq, A.c.injEq, A.a.injEq, T.v.injEq, T.s.injEq, Value.bool.injEq, Value.int.injEq, and_true, true_and]
    | (refine E.CALL.use (copyU_s_B _ ?_) ?_ <;> (try simp only [go_sem]))
    | (refine E.CALL.use (lastAct_s_B _ ?_) ?_ <;> (try simp only [go_sem]))
    | (refine E.CALL.use (validClu_s_B _ ?_) ?_ <;> (try simp only [go_sem]))
    | (refine E.CALL.use (in_s _ _ _) ?_ <;> (try simp only [go_sem]))
    | (refine E.CALL.use (members_s_B _ ?_) ?_ <;> (try simp only [go_sem]))
    | (refine E.CALL.use (sameSide_s _ _ _ ?_) ?_ <;> (try simp only [go_sem]))
    | (refine E.CALL.use (seal_s _ _ ?_) ?_ <;> (try simp only [go_sem]))
    | (refine E.GB.use (fun h => ?_) (fun h => ?_) <;> (simp only [go_sem, h]) <;> (try simp only [decide_eq_true_eq, decide_eq_false_iff_not, Bool.not_eq_true', Bool.not_eq_false', Bool.not_eq_true, Bool.not_eq_false, beq_iff_eq, beq_eq_false_iff_ne, bne_iff_ne, bne_eq_false_iff_eq, Int.not_lt, Int.not_le, ne_eq] at h))
    | exact E.INDEP.mk2 (by kernel_rfl)
    | exact E.RK.mk (by kernel_rfl)
    | (refine E.IX_map ?_ (fun hx => ?_); rotate_left; simp only [go_sem])
    | (refine E.loopR (ι := Nat × Nat × List Srv) 7 rfl (fun ⟨i, v, s⟩ => [(.s 11, .v (.c (.v (vi i)))), (.k (7, 0), .e ⟨v, 10, [[.v (vi c.now), .s true 12 ((s).map (eSrv true)), .s true 1 (c.sides.map eInt), .s true 4 (c.mast.confs.map (eConf true)), .v (vi c.mast.act), .v (vi c.mup), .v (vi c.lse.epoch), .v (vi c.lse.holder), .v (vi c.lse.til), .s true 3 (c.plcs.map ePlc)]]⟩)]) [1, 2, 3, 6, 7, 10, 84] [(7, 0)] [] (fun ⟨i, v, s⟩ => (membersOf (lastAct c.mast).1).length - i) (fun ⟨i, v, s⟩ => i ≤ (membersOf (lastAct c.mast).1).length ∧ SealI c id e (membersOf (lastAct c.mast).1) i s) mix (by kernel_rfl) (0, 1, c.srvs) ?_ ?_ (fun ⟨i, v, s⟩ ⟨hi, hQ⟩ => ?_); all_goals (try simp (maxSteps := 900000) only [go_sem]); all_goals (try dsimp only at hi hQ))
    | (refine E.NEXT.use [] (i + 1, v + 1, s.set (at' (membersOf (lastAct c.mast).1) i).toNat (sealS (at' c.srvs (at' (membersOf (lastAct c.mast).1) i).toNat) e).1) ?_ ?_ ?_; rotate_left 2; focus (simp (maxSteps := 900000) only [go_sem]; (repeat' (first | with_reducible rfl | exact E.RK.mk (by kernel_rfl) | apply And.intro | (push_cast; with_reducible rfl) | (refine E.int_c ?_; omega) | (simp only [go_sem]; done) | (rw [List.map_append]; rfl) | (simp; done) | (simp only [*]; done) | (rw [List.map_set]; rfl; done) | fail)); done))
    | (refine E.NEXT.use [] (i + 1, v, s) ?_ ?_ ?_; rotate_left 2; focus (simp (maxSteps := 900000) only [go_sem]; (repeat' (first | with_reducible rfl | exact E.RK.mk (by kernel_rfl) | apply And.intro | (push_cast; with_reducible rfl) | (refine E.int_c ?_; omega) | (simp only [go_sem]; done) | (rw [List.map_append]; rfl) | (simp; done) | (simp only [*]; done) | (rw [List.map_set]; rfl; done) | fail)); done))
    | apply And.intro
    | omega
    | refine congrArg (List.map _) ?_
    | (have q := members_len (lastAct c.mast).1; omega; done)
    | (have q := members_at (c := (lastAct c.mast).1) (i := i) (by omega); have q2 := validClu_of (c := c) (by assumption); have q3 := hQ.len; omega; done)
    | (exact .start hB; done)
    | (exact hQ.yes_s (by omega) (by assumption) (by assumption); done)
    | (exact hQ.no_s (by omega) (.inl (by assumption)); done)
    | (exact hQ.no_s (by omega) (.inr (by assumption)); done)
    | (exact (CluB.at (by assumption) _); done)
    | (exact CluB.m (by assumption); done)
    | (exact CluB.sd (by assumption); done)
    | (exact (CluB.m (by assumption)).la; done)
    | ((have q9 := congrArg (fun x : Clu => x.now) (hQ.finM (by omega) (by assumption) (by assumption) (by assumption)); exact q9); done)
    | ((have q9 := congrArg (fun x : Clu => x.srvs) (hQ.finM (by omega) (by assumption) (by assumption) (by assumption)); exact q9); done)
    | ((have q9 := congrArg (fun x : Clu => x.sides) (hQ.finM (by omega) (by assumption) (by assumption) (by assumption)); exact q9); done)
    | ((have q9 := congrArg (fun x : Clu => x.mast.confs) (hQ.finM (by omega) (by assumption) (by assumption) (by assumption)); exact q9); done)
    | ((have q9 := congrArg (fun x : Clu => x.mast.act) (hQ.finM (by omega) (by assumption) (by assumption) (by assumption)); exact q9); done)
    | ((have q9 := congrArg (fun x : Clu => x.mup) (hQ.finM (by omega) (by assumption) (by assumption) (by assumption)); exact q9); done)
    | ((have q9 := congrArg (fun x : Clu => x.lse.epoch) (hQ.finM (by omega) (by assumption) (by assumption) (by assumption)); exact q9); done)
    | ((have q9 := congrArg (fun x : Clu => x.lse.holder) (hQ.finM (by omega) (by assumption) (by assumption) (by assumption)); exact q9); done)
    | ((have q9 := congrArg (fun x : Clu => x.lse.til) (hQ.finM (by omega) (by assumption) (by assumption) (by assumption)); exact q9); done)
    | ((have q9 := congrArg (fun x : Clu => x.plcs) (hQ.finM (by omega) (by assumption) (by assumption) (by assumption)); exact q9); done)
    | (rw [sealM_n (.inl (by assumption))]; done)
    | (rw [sealM_n (.inr (.inl (by assumption)))]; done)
    | (rw [sealM_n (.inr (.inr (by assumption)))]; done)
    | fail)

end
section
attribute [local go_sem] mdG_eq mdM toNat_pred setI List.length_set mdL_eq E.b_rem
theorem witLog_s (c : Clu) (id : Int) (hB : CluB c) : Fn Go.Proofs.Tryz.prog 122 [.a (eClu false c), .c (.v (vi id))] [.a [.d, .d, .d, .d, .d, .d, .d, .d, .d, .d], .c .d] [.c (.s true 7 (((witLog c id).getD []).map eLEnt)), .c (.v (.bool ((witLog c id).isSome)))] := by
  refine E.Fn.ev (n := 121) mdL false mix Go.Proofs.Tryz.func122 rfl (by simp [Go.Proofs.Tryz.f122]) Go.Proofs.Tryz.ntmps122 (by simp) (by kernel_rfl) (rs := [.tmp 4, .tmp 5]) (tys := [64, 4]) rfl rfl (by simp [finOK, A.ts, OWN, ownE, ownT]) (by simp [resOK, A.ts, OWN, ownE, ownT, DE]) ?_
  simp only [go_sem]
  repeat' (first
    | simp only [List.cons.injEq, A.c.injEq, A.a.injEq, T.v.injEq, T.s.injEq, Value.bool.injEq, Value.int.injEq, and_true, true_and]
    | (refine E.CALL.use (lastAct_s_B _ ?_) ?_ <;> (try simp only [go_sem]))
    | (refine E.CALL.use (validClu_s_B _ ?_) ?_ <;> (try simp only [go_sem]))
    | (refine E.CALL.use (in_s _ _ _) ?_ <;> (try simp only [go_sem]))
    | (refine E.CALL.use (sameSide_s _ _ _ ?_) ?_ <;> (try simp only [go_sem]))
    | (refine E.CALL.use (comData_s _ _ ?_ ?_) ?_ <;> (try simp only [go_sem]))
    | (refine E.CALL.use (joinTail_s _ _ _ ?_ ?_) ?_ <;> (try simp only [go_sem]))
    | (refine E.GB.use (fun h => ?_) (fun h => ?_) <;> (simp only [go_sem, h]) <;> (try simp only [decide_eq_true_eq, decide_eq_false_iff_not, Bool.not_eq_true', Bool.not_eq_false', Bool.not_eq_true, Bool.not_eq_false, beq_iff_eq, beq_eq_false_iff_ne, bne_iff_ne, bne_eq_false_iff_eq, Int.not_lt, Int.not_le, ne_eq] at h))
    | exact E.INDEP.mk2 (by kernel_rfl)
    | exact E.RK.mk (by kernel_rfl)
    | (refine E.IX_map ?_ (fun hx => ?_); rotate_left; simp only [go_sem])
    | (refine E.loopR (ι := Nat × Option (List LEnt)) 5 rfl (fun ⟨i, o⟩ => [(.s 10, .v (.c (.v (vi i)))), (.s 7, .v (.c (.v (.bool o.isSome)))), (.s 6, .v (.c (.r (15, 0) 0 [] 0 ((o.getD [])).length))), (.k (15, 0), .e ⟨0, 7, ((o.getD [])).map eLEnt⟩)]) [1, 2, 4, 5, 8, 9, 119, 120] [(15, 0)] [] (fun ⟨i, o⟩ => ((lastAct c.mast).1.wits).length - i) (fun ⟨i, o⟩ => i ≤ ((lastAct c.mast).1.wits).length ∧ WitO c id i o) mix (by kernel_rfl) (0, none) ?_ ?_ (fun ⟨i, o⟩ ⟨hi, hO⟩ => ?_); all_goals (try simp (maxSteps := 900000) only [go_sem]); all_goals (try dsimp only at hi hO))
    | (refine E.NEXT.use [] (i + 1, o) ?_ ?_ ?_; rotate_left 2; focus (simp (maxSteps := 900000) only [go_sem]; (repeat' (first | with_reducible rfl | exact E.RK.mk (by kernel_rfl) | apply And.intro | (push_cast; with_reducible rfl) | (refine E.int_c ?_; omega) | (simp only [go_sem]; done) | (rw [List.map_append]; rfl) | (simp; done) | (simp only [*]; done) | fail)); done))
    | (refine E.NEXT.use [] (i + 1, p) ?_ ?_ ?_; rotate_left 2; focus (simp (maxSteps := 900000) only [go_sem]; (repeat' (first | with_reducible rfl | exact E.RK.mk (by kernel_rfl) | apply And.intro | (push_cast; with_reducible rfl) | (refine E.int_c ?_; omega) | (simp only [go_sem]; done) | (rw [List.map_append]; rfl) | (simp; done) | (simp only [*]; done) | fail)); done))
    | (refine E.loopR (ι := Nat × Option (List LEnt)) 10 rfl (fun ⟨k, p⟩ => [(.s 12, .v (.c (.v (vi k)))), (.s 7, .v (.c (.v (.bool p.isSome)))), (.s 6, .v (.c (.r (15, 0) 0 [] 0 ((p.getD [])).length))), (.k (15, 0), .e ⟨0, 7, ((p.getD [])).map eLEnt⟩)]) [1, 2, 4, 5, 8, 9, 10, 11, 22, 23, 24, 25, 26, 27, 28, 29, 30, 31, 32, 33, 34, 35, 36, 37, 38, 39, 40, 41, 42, 43, 44, 45, 46, 47, 48, 49, 50, 51, 52, 53, 54, 55, 56, 57, 58, 59, 60, 61, 62, 63, 64, 65, 66, 67, 68, 69, 70, 71, 119, 120] [(15, 0)] [] (fun ⟨k, p⟩ => 5 - k) (fun ⟨k, p⟩ => k ≤ 5 ∧ WitK c id (at' c.srvs (at' ((lastAct c.mast).1.wits) i).toNat) (witIn c id (at' c.srvs (at' ((lastAct c.mast).1.wits) i).toNat) 0 c.srvs o) k p) mix (by kernel_rfl) (0, o) ?_ ?_ (fun ⟨k, p⟩ ⟨hk, hK⟩ => ?_); all_goals (try simp (maxSteps := 900000) only [go_sem]); all_goals (try dsimp only at hk hK))
    | (refine E.NEXT.use [] (k + 1, p) ?_ ?_ ?_; rotate_left 2; focus (simp (maxSteps := 900000) only [go_sem]; (repeat' (first | with_reducible rfl | exact E.RK.mk (by kernel_rfl) | apply And.intro | (push_cast; with_reducible rfl) | (refine E.int_c ?_; omega) | (simp only [go_sem]; done) | (rw [List.map_append]; rfl) | (simp; done) | (simp only [*]; done) | fail)); done))
    | (refine E.NEXT.use [((15, 0), (103, 0))] (k + 1, some ((joinTail (comData (at' c.srvs k) k) (at' c.srvs (at' ((lastAct c.mast).1.wits) i).toNat).first (at' c.srvs (at' ((lastAct c.mast).1.wits) i).toNat).log).getD [])) ?_ ?_ ?_; rotate_left 2; focus (simp (maxSteps := 900000) only [go_sem]; (repeat' (first | with_reducible rfl | exact E.RK.mk (by kernel_rfl) | apply And.intro | (push_cast; with_reducible rfl) | (refine E.int_c ?_; omega) | (simp only [go_sem]; done) | (rw [List.map_append]; rfl) | (simp; done) | (simp only [*]; done) | fail)); done))
    | apply And.intro
    | omega
    | refine congrArg (List.map _) ?_
    | (have q := (la_len c.mast).2; omega; done)
    | (have q := conf_wit (lastAct_of (m := c.mast) (by assumption)).2.2.2.1 (E.at_mem (l := (lastAct c.mast).1.wits) (i := i) (by omega)); have q2 := validClu_of (c := c) (by assumption); omega; done)
    | (exact srv_cvn (by with_reducible assumption) (by omega); done)
    | (have q := conf_wit (lastAct_of (m := c.mast) (by assumption)).2.2.2.1 (E.at_mem (l := (lastAct c.mast).1.wits) (i := i) (by omega)); have q2 := hasSrv_of (c := c) (id := id) (by first | with_reducible assumption | exact has_mk (by with_reducible assumption) (by with_reducible assumption)); omega; done)
    | (exact .start c id; done)
    | (exact .start hO; done)
    | (exact hO.no (by omega) (he_n1 (by with_reducible assumption)); done)
    | (exact hO.no (by omega) (he_n2 (by with_reducible assumption)); done)
    | (exact hO.no (by omega) (he_n3 (by with_reducible assumption)); done)
    | (exact hO.yes (by omega) (by with_reducible assumption) (by first | with_reducible assumption | exact has_mk (by with_reducible assumption) (by with_reducible assumption)) (by first | with_reducible assumption | exact he_y (by with_reducible assumption) (by with_reducible assumption) (by with_reducible assumption)) hK (by omega); done)
    | (exact hK.no (by have q := hasSrv_of (c := c) (id := id) (by first | with_reducible assumption | exact has_mk (by with_reducible assumption) (by with_reducible assumption)); omega) (.inl (by with_reducible assumption)); done)
    | (exact hK.no (by have q := hasSrv_of (c := c) (id := id) (by first | with_reducible assumption | exact has_mk (by with_reducible assumption) (by with_reducible assumption)); omega) (.inr (.inl (by with_reducible assumption))); done)
    | (exact hK.no (by have q := hasSrv_of (c := c) (id := id) (by first | with_reducible assumption | exact has_mk (by with_reducible assumption) (by with_reducible assumption)); omega) (.inr (.inr (by with_reducible assumption))); done)
    | (exact hK.yes (by have q := hasSrv_of (c := c) (id := id) (by first | with_reducible assumption | exact has_mk (by with_reducible assumption) (by with_reducible assumption)); omega) (by with_reducible assumption) (by with_reducible assumption) (by with_reducible assumption) (.inl (by with_reducible assumption)); done)
    | (exact hK.yes (by have q := hasSrv_of (c := c) (id := id) (by first | with_reducible assumption | exact has_mk (by with_reducible assumption) (by with_reducible assumption)); omega) (by with_reducible assumption) (by with_reducible assumption) (by with_reducible assumption) (.inr (by omega)); done)
    | (exact hK.keep (by have q := hasSrv_of (c := c) (id := id) (by first | with_reducible assumption | exact has_mk (by with_reducible assumption) (by with_reducible assumption)); omega) (by with_reducible assumption) (by omega); done)
    | (rw [hO.fin (by omega)]; done)
    | (rw [hO.out (.inl (by with_reducible assumption))]; done)
    | (rw [hO.out (.inr (.inl (by with_reducible assumption)))]; done)
    | (rw [hO.out (.inr (.inr (by with_reducible assumption)))]; done)
    | (exact Nat.le_trans (comData_len _ _ (CluB.at hB _)) (by decide); done)
    | (exact (CluB.at (by assumption) _); done)
    | (exact (CluB.at (by assumption) _).log; done)
    | (exact CluB.m (by assumption); done)
    | (rfl; done)
    | fail)

theorem witLog_i (c : Clu) (id : Int) (hB : CluB c) : Fn Go.Proofs.Tryz.prog 145 [.a (eClu false c), .c (.v (vi id))] [.a [.d, .d, .d, .d, .d, .d, .d, .d, .d, .d], .c .d] [.c (.s true 7 (((witLog c id).getD []).map eLEnt)), .c (.v (.bool ((witLog c id).isSome)))] := by
  refine E.Fn.ev (n := 99) mdL false mix Go.Proofs.Tryz.func145 rfl (by simp [Go.Proofs.Tryz.f145]) Go.Proofs.Tryz.ntmps145 (by simp) (by kernel_rfl) (rs := [.tmp 4, .tmp 5]) (tys := [64, 4]) rfl rfl (by simp [finOK, A.ts, OWN, ownE, ownT]) (by simp [resOK, A.ts, OWN, ownE, ownT, DE]) ?_
  simp only [go_sem]
  repeat' (first
    | simp only [List.cons.injEq, A.c.injEq, A.a.injEq, T.v.injEq, T.s.injEq, Value.bool.injEq, Value.int.injEq, and_true, true_and]
    | (refine E.CALL.use (lastAct_i_B _ ?_) ?_ <;> (try simp only [go_sem]))
    | (refine E.CALL.use (hasSrv_i _ _ ?_) ?_ <;> (try simp only [go_sem]))
    | (refine E.CALL.use (hasEp_i _ _ _ _ ?_ ?_ ?_) ?_ <;> (try simp only [go_sem]))
    | (refine E.CALL.use (sameSide_i _ _ _ ?_) ?_ <;> (try simp only [go_sem]))
    | (refine E.CALL.use (comData_i _ _ ?_) ?_ <;> (try simp only [go_sem]))
    | (refine E.CALL.use (joinTail_i _ _ _ ?_ ?_) ?_ <;> (try simp only [go_sem]))
    | (refine E.GB.use (fun h => ?_) (fun h => ?_) <;> (simp only [go_sem, h]) <;> (try simp only [decide_eq_true_eq, decide_eq_false_iff_not, Bool.not_eq_true', Bool.not_eq_false', Bool.not_eq_true, Bool.not_eq_false, beq_iff_eq, beq_eq_false_iff_ne, bne_iff_ne, bne_eq_false_iff_eq, Int.not_lt, Int.not_le, ne_eq] at h))
    | exact E.INDEP.mk2 (by kernel_rfl)
    | exact E.RK.mk (by kernel_rfl)
    | (refine E.IX_map ?_ (fun hx => ?_); rotate_left; simp only [go_sem])
    | (refine E.loopR (ι := Nat × Option (List LEnt)) 6 rfl (fun ⟨i, o⟩ => [(.s 35, .v (.c (.v (vi i)))), (.s 9, .v (.c (.v (.bool o.isSome)))), (.s 8, .v (.c (.r (31, 0) 0 [] 0 ((o.getD [])).length))), (.k (31, 0), .e ⟨0, 7, ((o.getD [])).map eLEnt⟩)]) [1, 2, 4, 5, 6, 33, 34, 96, 97, 98] [(31, 0)] [] (fun ⟨i, o⟩ => ((lastAct c.mast).1.wits).length - i) (fun ⟨i, o⟩ => i ≤ ((lastAct c.mast).1.wits).length ∧ WitO c id i o) mix (by kernel_rfl) (0, none) ?_ ?_ (fun ⟨i, o⟩ ⟨hi, hO⟩ => ?_); all_goals (try simp (maxSteps := 900000) only [go_sem]); all_goals (try dsimp only at hi hO))
    | (refine E.NEXT.use [] (i + 1, o) ?_ ?_ ?_; rotate_left 2; focus (simp (maxSteps := 900000) only [go_sem]; (repeat' (first | with_reducible rfl | exact E.RK.mk (by kernel_rfl) | apply And.intro | (push_cast; with_reducible rfl) | (refine E.int_c ?_; omega) | (simp only [go_sem]; done) | (rw [List.map_append]; rfl) | (simp; done) | (simp only [*]; done) | fail)); done))
    | (refine E.NEXT.use [] (i + 1, p) ?_ ?_ ?_; rotate_left 2; focus (simp (maxSteps := 900000) only [go_sem]; (repeat' (first | with_reducible rfl | exact E.RK.mk (by kernel_rfl) | apply And.intro | (push_cast; with_reducible rfl) | (refine E.int_c ?_; omega) | (simp only [go_sem]; done) | (rw [List.map_append]; rfl) | (simp; done) | (simp only [*]; done) | fail)); done))
    | (refine E.loopR (ι := Nat × Option (List LEnt)) 11 rfl (fun ⟨k, p⟩ => [(.s 54, .v (.c (.v (vi k)))), (.s 9, .v (.c (.v (.bool p.isSome)))), (.s 8, .v (.c (.r (31, 0) 0 [] 0 ((p.getD [])).length))), (.k (31, 0), .e ⟨0, 7, ((p.getD [])).map eLEnt⟩)]) [1, 2, 4, 5, 6, 11, 12, 33, 34, 35, 36, 37, 38, 39, 40, 41, 42, 43, 44, 45, 46, 47, 48, 49, 50, 51, 52, 53, 95, 96, 97, 98] [(31, 0)] [] (fun ⟨k, p⟩ => 5 - k) (fun ⟨k, p⟩ => k ≤ 5 ∧ WitK c id (at' c.srvs (at' ((lastAct c.mast).1.wits) i).toNat) (witIn c id (at' c.srvs (at' ((lastAct c.mast).1.wits) i).toNat) 0 c.srvs o) k p) mix (by kernel_rfl) (0, o) ?_ ?_ (fun ⟨k, p⟩ ⟨hk, hK⟩ => ?_); all_goals (try simp (maxSteps := 900000) only [go_sem]); all_goals (try dsimp only at hk hK))
    | (refine E.NEXT.use [] (k + 1, p) ?_ ?_ ?_; rotate_left 2; focus (simp (maxSteps := 900000) only [go_sem]; (repeat' (first | with_reducible rfl | exact E.RK.mk (by kernel_rfl) | apply And.intro | (push_cast; with_reducible rfl) | (refine E.int_c ?_; omega) | (simp only [go_sem]; done) | (rw [List.map_append]; rfl) | (simp; done) | (simp only [*]; done) | fail)); done))
    | (refine E.NEXT.use [((31, 0), (78, 0))] (k + 1, some ((joinTail (comData (at' c.srvs k) k) (at' c.srvs (at' ((lastAct c.mast).1.wits) i).toNat).first (at' c.srvs (at' ((lastAct c.mast).1.wits) i).toNat).log).getD [])) ?_ ?_ ?_; rotate_left 2; focus (simp (maxSteps := 900000) only [go_sem]; (repeat' (first | with_reducible rfl | exact E.RK.mk (by kernel_rfl) | apply And.intro | (push_cast; with_reducible rfl) | (refine E.int_c ?_; omega) | (simp only [go_sem]; done) | (rw [List.map_append]; rfl) | (simp; done) | (simp only [*]; done) | fail)); done))
    | apply And.intro
    | omega
    | refine congrArg (List.map _) ?_
    | (have q := (la_len c.mast).2; omega; done)
    | (have q2 := hasSrv_of (c := c) (id := id) (by assumption); omega; done)
    | (have q := conf_wit (lastAct_of (m := c.mast) (by assumption)).2.2.2.1 (E.at_mem (l := (lastAct c.mast).1.wits) (i := i) (by omega)); omega; done)
    | (have q := conf_wit (lastAct_of (m := c.mast) (by assumption)).2.2.2.1 (E.at_mem (l := (lastAct c.mast).1.wits) (i := i) (by omega)); have q2 := hasSrv_of (c := c) (id := id) (by first | with_reducible assumption | exact has_mk (by with_reducible assumption) (by with_reducible assumption)); omega; done)
    | (exact .start c id; done)
    | (exact .start hO; done)
    | (exact hO.no (by omega) (by with_reducible assumption); done)
    | (exact hO.yes (by omega) (by with_reducible assumption) (by first | with_reducible assumption | exact has_mk (by with_reducible assumption) (by with_reducible assumption)) (by first | with_reducible assumption | exact he_y (by with_reducible assumption) (by with_reducible assumption) (by with_reducible assumption)) hK (by have q := hasSrv_of (c := c) (id := id) (by first | with_reducible assumption | exact has_mk (by with_reducible assumption) (by with_reducible assumption)); omega); done)
    | (exact hK.no (by have q := hasSrv_of (c := c) (id := id) (by first | with_reducible assumption | exact has_mk (by with_reducible assumption) (by with_reducible assumption)); omega) (.inl (by with_reducible assumption)); done)
    | (exact hK.no (by have q := hasSrv_of (c := c) (id := id) (by first | with_reducible assumption | exact has_mk (by with_reducible assumption) (by with_reducible assumption)); omega) (.inr (.inl (by with_reducible assumption))); done)
    | (exact hK.no (by have q := hasSrv_of (c := c) (id := id) (by first | with_reducible assumption | exact has_mk (by with_reducible assumption) (by with_reducible assumption)); omega) (.inr (.inr (by with_reducible assumption))); done)
    | (exact hK.yes (by have q := hasSrv_of (c := c) (id := id) (by first | with_reducible assumption | exact has_mk (by with_reducible assumption) (by with_reducible assumption)); omega) (by with_reducible assumption) (by with_reducible assumption) (by with_reducible assumption) (.inl (by with_reducible assumption)); done)
    | (exact hK.yes (by have q := hasSrv_of (c := c) (id := id) (by first | with_reducible assumption | exact has_mk (by with_reducible assumption) (by with_reducible assumption)); omega) (by with_reducible assumption) (by with_reducible assumption) (by with_reducible assumption) (.inr (by omega)); done)
    | (exact hK.keep (by have q := hasSrv_of (c := c) (id := id) (by first | with_reducible assumption | exact has_mk (by with_reducible assumption) (by with_reducible assumption)); omega) (by with_reducible assumption) (by omega); done)
    | (rw [hO.fin (by omega)]; done)
    | ((have q := hO.fin (by omega); rw [← q, opt_n (by with_reducible assumption)]; rfl); done)
    | ((have q := hO.fin (by omega); rw [← q]; symm; assumption); done)
    | ((rw [witLog_n (.inl (by with_reducible assumption))] <;> rfl); done)
    | ((rw [witLog_n (.inr (by with_reducible assumption))] <;> rfl); done)
    | (exact Nat.le_trans (comData_len _ _ (CluB.at hB _)) (by decide); done)
    | (exact (CluB.at (by assumption) _); done)
    | (exact (CluB.at (by assumption) _).log; done)
    | (exact CluB.m (by assumption); done)
    | (rfl; done)
    | fail)

end
section
attribute [local go_sem] mdG_eq mdM toNat_pred setI List.length_set mdL_eq E.b_rem
theorem srcLog_s (c : Clu) (id : Int) (hB : CluB c) : Fn Go.Proofs.Tryz.prog 35 [.a (eClu false c), .c (.v (vi id))] [.a [.d, .d, .d, .d, .d, .d, .d, .d, .d, .d], .c .d] [.c (.s true 7 (((srcLog c id).getD []).map eLEnt)), .c (.v (.bool ((srcLog c id).isSome)))] := by
  refine E.Fn.ev (n := 43) mdL false mix Go.Proofs.Tryz.func35 rfl (by simp [Go.Proofs.Tryz.f35]) Go.Proofs.Tryz.ntmps35 (by simp) (by kernel_rfl) (rs := [.tmp 4, .tmp 5]) (tys := [64, 4]) rfl rfl (by simp [finOK, A.ts, OWN, ownE, ownT]) (by simp [resOK, A.ts, OWN, ownE, ownT, DE]) ?_
  simp only [go_sem]
  repeat' (first
    | simp only [List.cons.injEq, A.c.injEq, A.a.injEq, T.v.injEq, T.s.injEq, Value.bool.injEq, Value.int.injEq, and_true, true_and]
    | (refine E.CALL.use (validClu_s_B _ ?_) ?_ <;> (try simp only [go_sem]))
    | (refine E.CALL.use (in_s _ _ _) ?_ <;> (try simp only [go_sem]))
    | (refine E.CALL.use (bestSrc_s _ _ ?_) ?_ <;> (try simp only [go_sem]))
    | (refine E.CALL.use (copyL_s _ ?_) ?_ <;> (try simp only [go_sem]))
    | (refine E.CALL.use (witLog_s _ _ ?_) ?_ <;> (try simp only [go_sem]))
    | (refine E.GB.use (fun h => ?_) (fun h => ?_) <;> (simp only [go_sem, h]) <;> (try simp only [decide_eq_true_eq, decide_eq_false_iff_not, Bool.not_eq_true', Bool.not_eq_false', Bool.not_eq_true, Bool.not_eq_false, beq_iff_eq, beq_eq_false_iff_ne, bne_iff_ne, bne_eq_false_iff_eq, Int.not_lt, Int.not_le, ne_eq] at h))
    | (refine E.IX_map ?_ (fun hx => ?_); rotate_left; simp only [go_sem])
    | apply And.intro
    | omega
    | refine congrArg (List.map _) ?_
    | (have q := best_in (c := c) (id := id) (by omega); omega; done)
    | (exact (CluB.at (by assumption) _).log; done)
    | (rw [srcLog_w (by first | assumption | simp [hasSrv, *]) (by assumption) (by assumption)]; done)
    | (simp [srcLog, hasSrv, srvAt, *]; done)
    | fail)

theorem srcLog_i (c : Clu) (id : Int) (hB : CluB c) : Fn Go.Proofs.Tryz.prog 51 [.a (eClu false c), .c (.v (vi id))] [.a [.d, .d, .d, .d, .d, .d, .d, .d, .d, .d], .c .d] [.c (.s true 7 (((srcLog c id).getD []).map eLEnt)), .c (.v (.bool ((srcLog c id).isSome)))] := by
  refine E.Fn.ev (n := 33) mdL false mix Go.Proofs.Tryz.func51 rfl (by simp [Go.Proofs.Tryz.f51]) Go.Proofs.Tryz.ntmps51 (by simp) (by kernel_rfl) (rs := [.tmp 4, .tmp 5]) (tys := [64, 4]) rfl rfl (by simp [finOK, A.ts, OWN, ownE, ownT]) (by simp [resOK, A.ts, OWN, ownE, ownT, DE]) ?_
  simp only [go_sem]
  repeat' (first
    | simp only [List.cons.injEq, A.c.injEq, A.a.injEq, T.v.injEq, T.s.injEq, Value.bool.injEq, Value.int.injEq, and_true, true_and]
    | (refine E.CALL.use (hasSrv_i _ _ ?_) ?_ <;> (try simp only [go_sem]))
    | (refine E.CALL.use (bestSrc_i _ _ ?_) ?_ <;> (try simp only [go_sem]))
    | (refine E.CALL.use (cloneE_c _ ?_) ?_ <;> (try simp only [go_sem]))
    | (refine E.CALL.use (witLog_i _ _ ?_) ?_ <;> (try simp only [go_sem]))
    | (refine E.GB.use (fun h => ?_) (fun h => ?_) <;> (simp only [go_sem, h]) <;> (try simp only [decide_eq_true_eq, decide_eq_false_iff_not, Bool.not_eq_true', Bool.not_eq_false', Bool.not_eq_true, Bool.not_eq_false, beq_iff_eq, beq_eq_false_iff_ne, bne_iff_ne, bne_eq_false_iff_eq, Int.not_lt, Int.not_le, ne_eq] at h))
    | (refine E.IX_map ?_ (fun hx => ?_); rotate_left; simp only [go_sem])
    | apply And.intro
    | omega
    | refine congrArg (List.map _) ?_
    | (have q := best_in (c := c) (id := id) (by omega); omega; done)
    | (exact (CluB.at (by assumption) _).log; done)
    | (rw [srcLog_w (by first | assumption | simp [hasSrv, *]) (by assumption) (by assumption)]; done)
    | (simp [srcLog, srvAt, *]; done)
    | fail)

end

end Go.Abs

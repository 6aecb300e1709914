/- Contracts of functions of the program, over the abstract machine, and facts for them. No condition. -/
import Derived.Test.YtedbdcjpdamhcaaGreatFacts
import Derived.Test.YtedbdcjpdamhcaaGreatPure19
import Derived.Test.YtedbdcjpdamhcaaGreatQ10
import Derived.Test.YtedbdcjpdamhcaaGreatQ13
import Derived.Test.YtedbdcjpdamhcaaGreatQ3
import Derived.Test.YtedbdcjpdamhcaaGreatQ4
import Derived.Test.YtedbdcjpdamhcaaGreatQ69
import Derived.Test.YtedbdcjpdamhcaaGreatQ8
import Derived.Test.YtedbdcjpdamhcaaGreatQ9
set_option linter.unusedVariables false
set_option linter.unusedSimpArgs false
set_option linter.unnecessarySimpa false
set_option linter.constructorNameAsVariable false
set_option maxHeartbeats 4000000
set_option maxRecDepth 100000
namespace Go.Abs
open Go
attribute [local go_sem ↓] E.argsA_h E.wq_ret E.wq_req E.wq_bad E.wq_call E.wq_get E.wq_getO E.wq_getOs E.wq_getPs E.wq_fresh E.wq_anyNil E.wq_getR0 E.wq_getR E.wq_ixM E.wq_n E.wq_g E.wq_gn E.ev_skip E.ev_region E.ev_draw E.ev_seq E.ev_cond E.ev_block E.ev_exit E.ev_ret E.sq_n E.sq_e E.sq_r E.bl_n E.bl_e E.bl_r E.lp_n E.lp_e E.lp_r E.fk_n E.fk_r E.q_move E.q_assign E.q_pick E.q_bin E.q_binw E.q_un E.q_alloc E.q_box E.q_build E.q_buildS E.q_makeS E.q_load E.q_store E.q_nilCheck E.q_slice E.q_fieldAddr E.q_field E.q_indexAddr E.q_extract E.q_makeFunc E.q_call E.q_callT E.q_len E.q_append E.q_min E.q_max E.q_convert E.q_cap E.q_clear appendIM appendZM E.b_add E.b_sub E.b_mul E.b_eql E.b_neq E.b_lss E.b_leq E.b_gtr E.b_geq E.GO_tmp E.GO_int E.GO_bool E.GO_str E.GO_nil E.GO_func E.GOs_nil E.GOs_cons E.GPs_nil E.GPs_cons E.RW_nil E.RW_cons E.dstAt_0 E.dstAt_s E.keepL_nil E.keepL_s E.keepL_k E.rmN_nil E.rmN_cons E.memN_nil E.memN_cons E.memK_nil E.memK_cons E.ovl_nil E.ovl_kk E.ovl_sk E.ovl_ks E.ovl_ss ofL_s ofL_sk ofL_ks ofL_k ofL_nil E.CO_tmp E.CO_bool
attribute [local go_sem] E.RM_nil E.RM_cons E.kd_k E.sbr_eq E.s3_nil E.s3_s E.s3_k E.vr_c E.vr_a E.vr_p E.vr_q E.vr_t E.vr_f E.vr_u E.cr_r E.cr_v E.cr_b E.cr_n E.cr_u E.crs_nil E.crs_cons E.renK_nil E.renK_cons keysVs V.keys C.keys keysCs E.RG_nil E.RG_cons E.GV_v E.GB_true E.GB_false E.GX_b E.GG_t E.GG_f E.GG_u E.GU_some E.IX_0 E.IX_s E.CX_s E.FR_none E.EN_e E.GVB_b E.b_boolM E.b_nilM E.b_strM E.b_aggM
attribute [local go_sem] List.cons_append List.nil_append List.append_nil List.length_cons List.length_nil List.length_map List.length_append callM E.argsH_nil E.argsH_cons E.argH_c E.argH_a E.argH_f E.cellsH_nil E.cellsH_cons E.cellH_v E.cellH_b E.cellH_n E.cellH_nt E.cellH_u E.cellH_rt E.cellH_rf capsA capA callable backs backT resVs resV resC tupV lenV intV boolV getE getO entryL entryKs A.ts entryV entryC entryCs entryCap List.map_cons List.map_nil E.cut_n E.cut_r E.cutM plainL A.capOK szEs szE szT SZ whole toB toC List.drop_zero List.take_zero List.take_succ_cons List.drop_succ_cons resultsM resultM outM outM1 convs conv finAs finA finT finTs Int.toNat_natCast A.plain T.plain List.isEmpty_nil List.isEmpty_cons Bool.or_true Bool.true_or Bool.and_self List.getElem?_cons_zero List.getElem?_cons_succ Option.bind_some Option.bind_none Option.bind Nat.zero_add Nat.add_zero OWN BOR ONE SCAL DE ETA E.take_rest Int.toNat_zero E.take_map E.drop_map E.take_len1 List.take_length E.app_map Int.natCast_zero Int.sub_zero Int.toNat_sub partCells V.cells convsL appendM srcM E.scalEs_nil E.scalEs_cons E.oneEs_nil E.oneEs_cons List.all_cons List.all_nil T.one Bool.and_true gone ownEs ownE ownT borEs borE borT setRow splice List.set_cons_zero List.set_cons_succ optI getOpt sliceM ptrTo app_ofL T.isV Value.oneCell' fillC zeroC spliceC allV eqVs eqV minV maxV setAt setCell holed List.dropLast List.getLast?_singleton Option.getD_some Option.isSome_some Option.isSome_none Bool.and_false Bool.true_and Bool.false_and Option.map_some Option.map_none false_or true_or or_true rowAt cellAt E.constV_nil E.constV_int E.constV_bool E.constV_str E.setCell_set E.setCell_len setRow setAt List.dropLast_cons_cons List.dropLast_singleton List.getLast?_cons_cons
attribute [local go_sem_proc ↓] reduceIte
attribute [local go_sem_proc] Nat.reduceEqDiff reduceCtorEq Nat.reduceAdd Nat.reduceMul
attribute [local irreducible] E.argsH E.argH E.cellsH E.cellH E.GV E.GB E.GX E.GG E.GU E.IX E.CX E.RW E.FR E.EN E.CALL E.GO E.GOs E.GPs E.GVB E.KD E.RM E.RG E.CO E.WQ E.EV E.SQ E.BL E.LP E.FK E.S3 E.RK E.NEXT E.NQ E.INDEP
attribute [local go_sem] mdG_eq mdM toNat_pred setI List.length_set mdL_eq E.b_rem
theorem plan_s (l : List Plc) (ms : List Int) (al : List Int) (want : Int) (hl : l.length ≤ 1048576) (hm : ms.length ≤ 12) (ha : al.length ≤ 12) : Fn Go.Proofs.Tryz.prog 22 [.c (.s false 3 (l.map ePlc)), .c (.s false 1 (ms.map eInt)), .c (.s false 1 (al.map eInt)), .c (.v (vi want))] [.c .d, .c .d, .c .d, .c .d] [.c (.s true 1 ((plan l ms al want).map eInt))] := by
  refine E.Fn.ev (n := 52) mdL false mix Go.Proofs.Tryz.func22 rfl (by simp [Go.Proofs.Tryz.f22]) Go.Proofs.Tryz.ntmps22 (by simp) (by kernel_rfl) (rs := [.tmp 8]) (tys := [23]) rfl rfl (by simp [finOK, A.ts, OWN, ownE, ownT]) (by simp [resOK, A.ts, OWN, ownE, ownT, DE]) ?_
  simp only [go_sem]
  repeat' (first
    | simp only [IJS]
    | (refine E.CALL.use (without_s [0, 1, 2, 3, 4] al ?_ ?_) ?_ <;> (try simp only [go_sem]))
    | (refine E.CALL.use (common_s _ _ ?_ ?_) ?_ <;> (try simp only [go_sem]))
    | (refine E.CALL.use (arePlc_s _ ?_) ?_ <;> (try simp only [go_sem]))
    | (refine E.CALL.use (areSrv_s _ ?_) ?_ <;> (try simp only [go_sem]))
    | (refine E.CALL.use (in_s _ _ _) ?_ <;> (try simp only [go_sem]))
    | (refine E.CALL.use (spare_s_c _ _ _ ?_ ?_ ?_) ?_ <;> (try simp only [go_sem]))
    | (refine E.CALL.use (put_s _ _ ?_) ?_ <;> (try simp only [go_sem]))
    | (refine E.GB.use (fun h => ?_) (fun h => ?_) <;> (simp only [go_sem, h]) <;> (try simp only [HFS] at h))
    | exact E.RK.mk (by kernel_rfl)
    | (refine E.loopR (ι := Nat × List Int) 5 rfl (fun ⟨n, out⟩ => [(.s 9, .v (.c (.r (14, 0) 0 [] 0 (out).length))), (.k (14, 0), .e ⟨0, 1, (out).map eInt⟩)]) [0, 3, 10, 51] [(14, 0)] [] (fun ⟨n, out⟩ => (want - out.length).toNat) (fun ⟨n, out⟩ => 0 ≤ n ∧ PlanI l (without [0, 1, 2, 3, 4] al) want (plan l ms al want) n out) mix (by kernel_rfl) (6, common ms al) ?_ ?_ (fun ⟨n, out⟩ ⟨h0, hP⟩ => ?_); all_goals (try simp (maxSteps := 900000) only [go_sem]); all_goals (try dsimp only at h0 hP))
    | (refine E.NEXT.use [((14, 0), (50, 0))] (n - 1, putI out (spare l out (without [0, 1, 2, 3, 4] al))) ?_ ?_ ?_; rotate_left 2; focus (simp (maxSteps := 900000) only [go_sem]; (repeat' (first | with_reducible rfl | exact E.RK.mk (by kernel_rfl) | apply And.intro | (push_cast; with_reducible rfl) | (refine E.int_c ?_; omega) | (simp only [go_sem]; done) | (rw [List.map_append]; rfl) | (simp; done) | (simp only [*]; done) | fail)); done))
    | apply And.intro
    | omega
    | refine congrArg (List.map _) ?_
    | (have q := hP.len; omega; done)
    | (have q := without_len [0, 1, 2, 3, 4] al; simp at q; omega; done)
    | (exact (hP.next (by omega) (by omega)).1; done)
    | (have q := (hP.next (by omega) (by omega)).2; omega; done)
    | (exact .start (by assumption) (by assumption) (by assumption) (by assumption); done)
    | (rw [plan_n (.inl (by assumption))] <;> rfl; done)
    | (rw [plan_n (.inr (.inl (by assumption)))] <;> rfl; done)
    | (rw [plan_n (.inr (.inr (.inl (by assumption))))] <;> rfl; done)
    | (rw [plan_n (.inr (.inr (.inr (by assumption))))] <;> rfl; done)
    | (rw [hP.no (by omega) (by omega)]; done)
    | (rw [hP.done (by omega)]; done)
    | fail)
theorem plan_i (l : List Plc) (ms : List Int) (al : List Int) (want : Int) (hl : l.length ≤ 1048576) (hm : ms.length ≤ 12) (ha : al.length ≤ 12) : Fn Go.Proofs.Tryz.prog 40 [.c (.s false 3 (l.map ePlc)), .c (.s false 1 (ms.map eInt)), .c (.s false 1 (al.map eInt)), .c (.v (vi want))] [.c .d, .c .d, .c .d, .c .d] [.c (.s true 1 ((plan l ms al want).map eInt))] := by
  refine E.Fn.ev (n := 52) mdL false mix Go.Proofs.Tryz.func40 rfl (by simp [Go.Proofs.Tryz.f40]) Go.Proofs.Tryz.ntmps40 (by simp) (by kernel_rfl) (rs := [.tmp 8]) (tys := [23]) rfl rfl (by simp [finOK, A.ts, OWN, ownE, ownT]) (by simp [resOK, A.ts, OWN, ownE, ownT, DE]) ?_
  simp only [go_sem]
  repeat' (first
    | simp only [IJS]
    | (refine E.CALL.use (without_i [0, 1, 2, 3, 4] al ?_ ?_) ?_ <;> (try simp only [go_sem]))
    | (refine E.CALL.use (unite_i out [spare l out (without [0, 1, 2, 3, 4] al)] ?_) ?_ <;> (try simp only [go_sem]))
    | (refine E.CALL.use (arePlc_i _ ?_) ?_ <;> (try simp only [go_sem]))
    | (refine E.CALL.use (areSrv_i _ ?_) ?_ <;> (try simp only [go_sem]))
    | (refine E.CALL.use (in_i _ _ _) ?_ <;> (try simp only [go_sem]))
    | (refine E.CALL.use (common_i _ _ ?_ ?_) ?_ <;> (try simp only [go_sem]))
    | (refine E.CALL.use (allSrv_i) ?_ <;> (try simp only [go_sem]))
    | (refine E.CALL.use (spare_i_c _ _ _ ?_ ?_ ?_) ?_ <;> (try simp only [go_sem]))
    | (refine E.GB.use (fun h => ?_) (fun h => ?_) <;> (simp only [go_sem, h]) <;> (try simp only [HFS] at h))
    | exact E.RK.mk (by kernel_rfl)
    | (refine E.loopR (ι := Nat × List Int) 4 rfl (fun ⟨n, out⟩ => [(.s 9, .v (.c (.r (33, 0) 0 [] 0 (out).length))), (.k (33, 0), .e ⟨0, 1, (out).map eInt⟩)]) [0, 3, 8, 10, 51] [(33, 0)] [] (fun ⟨n, out⟩ => (want - out.length).toNat) (fun ⟨n, out⟩ => 0 ≤ n ∧ PlanI l (without [0, 1, 2, 3, 4] al) want (plan l ms al want) n out) mix (by kernel_rfl) (6, common ms al) ?_ ?_ (fun ⟨n, out⟩ ⟨h0, hP⟩ => ?_); all_goals (try simp (maxSteps := 900000) only [go_sem]); all_goals (try dsimp only at h0 hP))
    | (refine E.NEXT.use [((33, 0), (50, 0))] (n - 1, unite out [spare l out (without [0, 1, 2, 3, 4] al)]) ?_ ?_ ?_; rotate_left 2; focus (simp (maxSteps := 900000) only [go_sem]; (repeat' (first | with_reducible rfl | exact E.RK.mk (by kernel_rfl) | apply And.intro | (push_cast; with_reducible rfl) | (refine E.int_c ?_; omega) | (simp only [go_sem]; done) | (rw [List.map_append]; rfl) | (simp; done) | (simp only [*]; done) | fail)); done))
    | apply And.intro
    | omega
    | refine congrArg (List.map _) ?_
    | (have q := hP.len; omega; done)
    | (have q := without_len [0, 1, 2, 3, 4] al; simp at q; omega; done)
    | (exact .start (by assumption) (by assumption) (by assumption) (by assumption); done)
    | (rw [plan_n (.inl (by assumption))] <;> rfl; done)
    | (rw [plan_n (.inr (.inl (by assumption)))] <;> rfl; done)
    | (rw [plan_n (.inr (.inr (.inl (by assumption))))] <;> rfl; done)
    | (rw [plan_n (.inr (.inr (.inr (by assumption))))] <;> rfl; done)
    | (rw [hP.no (by omega) (by omega)]; done)
    | (rw [hP.done (by omega)]; done)
    | ((rw [unite_one (areServers_of hP.srv).1]; exact (hP.next (by omega) (by omega)).1); done)
    | ((rw [unite_one (areServers_of hP.srv).1]; have q := (hP.next (by omega) (by omega)).2; omega); done)
    | fail)
end Go.Abs

/- Contracts of functions of the program, over the abstract machine, and facts for them. No condition. -/
import Derived.Test.YtijifinpifomcaaGreatFacts
import Derived.Test.YtijifinpifomcaaGreatPure25
import Derived.Test.YtijifinpifomcaaGreatQ10
import Derived.Test.YtijifinpifomcaaGreatQ3
import Derived.Test.YtijifinpifomcaaGreatQ43
import Derived.Test.YtijifinpifomcaaGreatQ8
set_option linter.unusedVariables false
set_option linter.unusedSimpArgs false
set_option linter.unnecessarySimpa false
set_option linter.constructorNameAsVariable false
set_option maxHeartbeats 4000000
set_option maxRecDepth 100000
namespace Go.Abs
open Go
attribute [local go_sem ↓] E.argsA_h E.wq_ret E.wq_req E.wq_bad E.wq_call E.wq_get E.wq_getO E.wq_getOs E.wq_getPs E.wq_fresh E.wq_anyNil E.wq_getR0 E.wq_getR E.wq_ixM E.wq_n E.wq_g E.wq_gn E.ev_skip E.ev_region E.ev_draw E.ev_seq E.ev_cond E.ev_block E.ev_exit E.ev_ret E.sq_n E.sq_e E.sq_r E.bl_n E.bl_e E.bl_r E.lp_n E.lp_e E.lp_r E.fk_n E.fk_r E.q_move E.q_assign E.q_pick E.q_bin E.q_binw E.q_un E.q_alloc E.q_box E.q_build E.q_buildS E.q_makeS E.q_load E.q_store E.q_nilCheck E.q_slice E.q_fieldAddr E.q_field E.q_indexAddr E.q_extract E.q_makeFunc E.q_call E.q_callT E.q_len E.q_append E.q_min E.q_max E.q_convert E.q_cap E.q_clear appendIM appendZM E.b_add E.b_sub E.b_mul E.b_eql E.b_neq E.b_lss E.b_leq E.b_gtr E.b_geq E.GO_tmp E.GO_int E.GO_bool E.GO_str E.GO_nil E.GO_func E.GOs_nil E.GOs_cons E.GPs_nil E.GPs_cons E.RW_nil E.RW_cons E.dstAt_0 E.dstAt_s E.keepL_nil E.keepL_s E.keepL_k E.rmN_nil E.rmN_cons E.memN_nil E.memN_cons E.memK_nil E.memK_cons E.ovl_nil E.ovl_kk E.ovl_sk E.ovl_ks E.ovl_ss ofL_s ofL_sk ofL_ks ofL_k ofL_nil E.CO_tmp E.CO_bool
attribute [local go_sem] E.RM_nil E.RM_cons E.kd_k E.sbr_eq E.s3_nil E.s3_s E.s3_k E.vr_c E.vr_a E.vr_p E.vr_q E.vr_t E.vr_f E.vr_u E.cr_r E.cr_v E.cr_b E.cr_n E.cr_u E.crs_nil E.crs_cons E.renK_nil E.renK_cons keysVs V.keys C.keys keysCs E.RG_nil E.RG_cons E.GV_v E.GB_true E.GB_false E.GX_b E.GG_t E.GG_f E.GG_u E.GU_some E.IX_0 E.IX_s E.CX_s E.FR_none E.EN_e E.GVB_b E.b_boolM E.b_nilM E.b_strM E.b_aggM
attribute [local go_sem] List.cons_append List.nil_append List.append_nil List.length_cons List.length_nil List.length_map List.length_append callM E.argsH_nil E.argsH_cons E.argH_c E.argH_a E.argH_f E.argH_p ptrH_s E.cellsH_nil E.cellsH_cons E.cellH_v E.cellH_b E.cellH_n E.cellH_nt E.cellH_u E.cellH_rt E.cellH_rf capsA capA callable backs backT resVs resV resC tupV lenV intV boolV getE getO entryL entryKs A.ts entryV entryC entryCs entryCap List.map_cons List.map_nil E.cut_n E.cut_r E.cutM plainL A.lastOK T.lastOK Bool.false_or A.capOK szEs szE szT SZ whole toB toC List.drop_zero List.take_zero List.take_succ_cons List.drop_succ_cons resultsM resultM outM outM1 convs conv finAs finA finT finTs Int.toNat_natCast A.plain T.plain List.isEmpty_nil List.isEmpty_cons Bool.or_true Bool.true_or Bool.and_self List.getElem?_cons_zero List.getElem?_cons_succ Option.bind_some Option.bind_none Option.bind Nat.zero_add Nat.add_zero OWN BOR ONE SCAL DE ETA E.take_rest Int.toNat_zero E.take_map E.drop_map E.take_len1 List.take_length E.app_map Int.natCast_zero Int.sub_zero Int.toNat_sub partCells V.cells convsL appendM srcM E.scalEs_nil E.scalEs_cons E.oneEs_nil E.oneEs_cons List.all_cons List.all_nil T.one Bool.and_true gone ownEs ownE ownT borEs borE borT setRow splice List.set_cons_zero List.set_cons_succ optI getOpt sliceM ptrTo app_ofL T.isV Value.oneCell' fillC zeroC spliceC allV eqVs eqV minV maxV setAt setCell holed List.dropLast List.getLast?_singleton Option.getD_some Option.isSome_some Option.isSome_none Bool.and_false Bool.true_and Bool.false_and Option.map_some Option.map_none false_or true_or or_true rowAt cellAt E.constV_nil E.constV_int E.constV_bool E.constV_str E.setCell_set E.setCell_len setRow setAt List.dropLast_cons_cons List.dropLast_singleton List.getLast?_cons_cons
attribute [local go_sem_proc ↓] reduceIte
attribute [local go_sem_proc] Nat.reduceEqDiff reduceCtorEq Nat.reduceAdd Nat.reduceMul
attribute [local irreducible] E.argsH E.argH E.cellsH E.cellH E.GV E.GB E.GX E.GG E.GU E.IX E.CX E.RW E.FR E.EN E.CALL E.GO E.GOs E.GPs E.GVB E.KD E.RM E.RG E.CO E.WQ E.EV E.SQ E.BL E.LP E.FK E.S3 E.RK E.NEXT E.NQ E.INDEP
section
attribute [local go_sem] mdG_eq mdM toNat_pred setI List.length_set mdL_eq E.b_rem decE_self decN_self
theorem eqOp_l (a : ROp) (b : ROp) : Fn Go.Proofs.Tryz.prog 169 [.a (eROp a), .a (eROp b)] [.a [.d, .d, .d, .d, .d, .d], .a [.d, .d, .d, .d, .d, .d]] [.c (.v (.bool (decide (a = b))))] := by
  refine E.Fn.ev (n := 35) mdL false mix Go.Proofs.Tryz.func169 rfl (by simp [Go.Proofs.Tryz.f169]) Go.Proofs.Tryz.ntmps169 (by simp) (by kernel_rfl) (rs := [.tmp 4]) (tys := [4]) rfl rfl (by simp [finOK, A.ts, OWN, ownE, ownT]) (by simp [resOK, A.ts, OWN, ownE, ownT, DE]) ?_
  simp only [go_sem]
  repeat' (first
    | simp only [IJS]
    | (refine E.GB.use (fun h => ?_) (fun h => ?_) <;> (simp only [go_sem, h]) <;> (try simp only [HFS] at h))
    | apply And.intro
    | omega
    | (symm; rw [decide_eq_true_eq]; cases a; cases b; simp_all; done)
    | (symm; rw [decide_eq_false_iff_not]; intro e; subst e; simp_all; done)
    | fail)
theorem eqEnt_l (a : LEnt) (b : LEnt) : Fn Go.Proofs.Tryz.prog 162 [.a (eLEnt a), .a (eLEnt b)] [.a [.d, .d, .d, .d, .d, .d, .d], .a [.d, .d, .d, .d, .d, .d, .d]] [.c (.v (.bool (decide (a = b))))] := by
  refine E.Fn.ev (n := 16) mdL false mix Go.Proofs.Tryz.func162 rfl (by simp [Go.Proofs.Tryz.f162]) Go.Proofs.Tryz.ntmps162 (by simp) (by kernel_rfl) (rs := [.tmp 4]) (tys := [4]) rfl rfl (by simp [finOK, A.ts, OWN, ownE, ownT]) (by simp [resOK, A.ts, OWN, ownE, ownT, DE]) ?_
  simp only [go_sem]
  repeat' (first
    | simp only [IJS]
    | (refine E.CALL.use (eqOp_l _ _) ?_ <;> (try simp only [go_sem]))
    | (refine E.GB.use (fun h => ?_) (fun h => ?_) <;> (simp only [go_sem, h]) <;> (try simp only [HFS] at h))
    | apply And.intro
    | omega
    | (symm; rw [decide_eq_true_eq]; cases a; cases b; simp_all; done)
    | (symm; rw [decide_eq_false_iff_not]; intro e; subst e; simp_all; done)
    | fail)
theorem eqPlc_l (a : Plc) (b : Plc) : Fn Go.Proofs.Tryz.prog 105 [.a (ePlc a), .a (ePlc b)] [.a [.d, .d, .d], .a [.d, .d, .d]] [.c (.v (.bool (decide (a = b))))] := by
  refine E.Fn.ev (n := 20) mdL false mix Go.Proofs.Tryz.func105 rfl (by simp [Go.Proofs.Tryz.f105]) Go.Proofs.Tryz.ntmps105 (by simp) (by kernel_rfl) (rs := [.tmp 4]) (tys := [4]) rfl rfl (by simp [finOK, A.ts, OWN, ownE, ownT]) (by simp [resOK, A.ts, OWN, ownE, ownT, DE]) ?_
  simp only [go_sem]
  repeat' (first
    | simp only [IJS]
    | (refine E.GB.use (fun h => ?_) (fun h => ?_) <;> (simp only [go_sem, h]) <;> (try simp only [HFS] at h))
    | apply And.intro
    | omega
    | (symm; rw [decide_eq_true_eq]; cases a; cases b; simp_all; done)
    | (symm; rw [decide_eq_false_iff_not]; intro e; subst e; simp_all; done)
    | fail)
theorem eqLse_l (a : Lse) (b : Lse) : Fn Go.Proofs.Tryz.prog 50 [.a (eLse a), .a (eLse b)] [.a [.d, .d, .d], .a [.d, .d, .d]] [.c (.v (.bool (decide (a = b))))] := by
  refine E.Fn.ev (n := 20) mdL false mix Go.Proofs.Tryz.func50 rfl (by simp [Go.Proofs.Tryz.f50]) Go.Proofs.Tryz.ntmps50 (by simp) (by kernel_rfl) (rs := [.tmp 4]) (tys := [4]) rfl rfl (by simp [finOK, A.ts, OWN, ownE, ownT]) (by simp [resOK, A.ts, OWN, ownE, ownT, DE]) ?_
  simp only [go_sem]
  repeat' (first
    | simp only [IJS]
    | (refine E.GB.use (fun h => ?_) (fun h => ?_) <;> (simp only [go_sem, h]) <;> (try simp only [HFS] at h))
    | apply And.intro
    | omega
    | (symm; rw [decide_eq_true_eq]; cases a; cases b; simp_all; done)
    | (symm; rw [decide_eq_false_iff_not]; intro e; subst e; simp_all; done)
    | fail)
theorem eqE_l (a : List LEnt) (b : List LEnt) (ha : a.length ≤ 1048576) (hb : b.length ≤ 1048576) : Fn Go.Proofs.Tryz.prog 140 [.c (.s false 7 (a.map eLEnt)), .c (.s false 7 (b.map eLEnt))] [.c .d, .c .d] [.c (.v (.bool (decide (a = b))))] := by
  refine E.Fn.ev (n := 27) mdL false mix Go.Proofs.Tryz.func140 rfl (by simp [Go.Proofs.Tryz.f140]) Go.Proofs.Tryz.ntmps140 (by simp) (by kernel_rfl) (rs := [.tmp 4]) (tys := [4]) rfl rfl (by simp [finOK, A.ts, OWN, ownE, ownT]) (by simp [resOK, A.ts, OWN, ownE, ownT, DE]) ?_
  simp only [go_sem]
  repeat' (first
    | simp only [IJS]
    | (refine E.CALL.use (eqEnt_l _ _) ?_ <;> (try simp only [go_sem]))
    | (refine E.GB.use (fun h => ?_) (fun h => ?_) <;> (simp only [go_sem, h]) <;> (try simp only [HFS] at h))
    | exact E.INDEP.mk2 (by kernel_rfl)
    | exact E.RK.mk (by kernel_rfl)
    | (refine E.IX_map ?_ (fun hx => ?_); rotate_left; simp only [go_sem])
    | (refine E.loopR (ι := Nat) 4 rfl (fun i => [(.s 5, .v (.c (.v (vi i))))]) [0, 1] [] [] (fun i => a.length - i) (fun i => i ≤ a.length ∧ a.length = b.length ∧ decide (a.drop i = b.drop i) = decide (a = b)) mix (by kernel_rfl) 0 ?_ ?_ (fun i ⟨hi, hl, hR⟩ => ?_); all_goals (try simp (maxSteps := 900000) only [go_sem]); all_goals (try dsimp only at hi hl hR))
    | (refine E.NEXT.use [] (i + 1) ?_ ?_ ?_; rotate_left 2; focus (simp (maxSteps := 900000) only [go_sem]; (repeat' (first | with_reducible rfl | exact E.RK.mk (by kernel_rfl) | apply And.intro | (push_cast; with_reducible rfl) | (refine E.int_c ?_; omega) | (simp only [go_sem]; done) | (rw [List.map_append]; rfl) | (simp; done) | (simp only [*]; done) | fail)); done))
    | apply And.intro
    | omega
    | (exact eqS_1 (by omega) (by omega) h hR; done)
    | (exact eqS_0 (by omega) (by omega) h hR; done)
    | (exact eqS_e (by omega) (by omega) hR; done)
    | (exact eqS_n (by omega); done)
    | fail)
theorem eqP_l (a : List Plc) (b : List Plc) (ha : a.length ≤ 1048576) (hb : b.length ≤ 1048576) : Fn Go.Proofs.Tryz.prog 51 [.c (.s false 3 (a.map ePlc)), .c (.s false 3 (b.map ePlc))] [.c .d, .c .d] [.c (.v (.bool (decide (a = b))))] := by
  refine E.Fn.ev (n := 27) mdL false mix Go.Proofs.Tryz.func51 rfl (by simp [Go.Proofs.Tryz.f51]) Go.Proofs.Tryz.ntmps51 (by simp) (by kernel_rfl) (rs := [.tmp 4]) (tys := [4]) rfl rfl (by simp [finOK, A.ts, OWN, ownE, ownT]) (by simp [resOK, A.ts, OWN, ownE, ownT, DE]) ?_
  simp only [go_sem]
  repeat' (first
    | simp only [IJS]
    | (refine E.CALL.use (eqPlc_l _ _) ?_ <;> (try simp only [go_sem]))
    | (refine E.GB.use (fun h => ?_) (fun h => ?_) <;> (simp only [go_sem, h]) <;> (try simp only [HFS] at h))
    | exact E.INDEP.mk2 (by kernel_rfl)
    | exact E.RK.mk (by kernel_rfl)
    | (refine E.IX_map ?_ (fun hx => ?_); rotate_left; simp only [go_sem])
    | (refine E.loopR (ι := Nat) 4 rfl (fun i => [(.s 5, .v (.c (.v (vi i))))]) [0, 1] [] [] (fun i => a.length - i) (fun i => i ≤ a.length ∧ a.length = b.length ∧ decide (a.drop i = b.drop i) = decide (a = b)) mix (by kernel_rfl) 0 ?_ ?_ (fun i ⟨hi, hl, hR⟩ => ?_); all_goals (try simp (maxSteps := 900000) only [go_sem]); all_goals (try dsimp only at hi hl hR))
    | (refine E.NEXT.use [] (i + 1) ?_ ?_ ?_; rotate_left 2; focus (simp (maxSteps := 900000) only [go_sem]; (repeat' (first | with_reducible rfl | exact E.RK.mk (by kernel_rfl) | apply And.intro | (push_cast; with_reducible rfl) | (refine E.int_c ?_; omega) | (simp only [go_sem]; done) | (rw [List.map_append]; rfl) | (simp; done) | (simp only [*]; done) | fail)); done))
    | apply And.intro
    | omega
    | (exact eqS_1 (by omega) (by omega) h hR; done)
    | (exact eqS_0 (by omega) (by omega) h hR; done)
    | (exact eqS_e (by omega) (by omega) hR; done)
    | (exact eqS_n (by omega); done)
    | fail)
end
section
attribute [local go_sem] mdG_eq mdM toNat_pred setI List.length_set mdL_eq E.b_rem decE_self decN_self
theorem eqC_l (a : Conf) (b : Conf) (ha : ConfB a) (hb : ConfB b) : Fn Go.Proofs.Tryz.prog 139 [.a (eConf false a), .a (eConf false b)] [.a [.d, .d, .d, .d], .a [.d, .d, .d, .d]] [.c (.v (.bool (decide (a = b))))] := by
  refine E.Fn.ev (n := 27) mdL false mix Go.Proofs.Tryz.func139 rfl (by simp [Go.Proofs.Tryz.f139]) Go.Proofs.Tryz.ntmps139 (by simp) (by kernel_rfl) (rs := [.tmp 4]) (tys := [4]) rfl rfl (by simp [finOK, A.ts, OWN, ownE, ownT]) (by simp [resOK, A.ts, OWN, ownE, ownT, DE]) ?_
  simp only [go_sem]
  repeat' (first
    | simp only [IJS]
    | (refine E.CALL.use (eqIntS_l _ _ ?_ ?_) ?_ <;> (try simp only [go_sem]))
    | (refine E.GB.use (fun h => ?_) (fun h => ?_) <;> (simp only [go_sem, h]) <;> (try simp only [HFS] at h))
    | apply And.intro
    | omega
    | (exact ConfB.r (by assumption); done)
    | (exact ConfB.w (by assumption); done)
    | (symm; rw [decide_eq_true_eq]; cases a; cases b; simp_all; done)
    | (symm; rw [decide_eq_false_iff_not]; intro e; subst e; simp_all; done)
    | fail)
theorem eqCs_l (a : List Conf) (b : List Conf) (ha : a.length ≤ 1048576) (hb : b.length ≤ 1048576) (ga : ∀ x ∈ a, ConfB x) (gb : ∀ x ∈ b, ConfB x) : Fn Go.Proofs.Tryz.prog 104 [.c (.s false 4 (a.map (eConf false))), .c (.s false 4 (b.map (eConf false)))] [.c .d, .c .d] [.c (.v (.bool (decide (a = b))))] := by
  refine E.Fn.ev (n := 27) mdL false mix Go.Proofs.Tryz.func104 rfl (by simp [Go.Proofs.Tryz.f104]) Go.Proofs.Tryz.ntmps104 (by simp) (by kernel_rfl) (rs := [.tmp 4]) (tys := [4]) rfl rfl (by simp [finOK, A.ts, OWN, ownE, ownT]) (by simp [resOK, A.ts, OWN, ownE, ownT, DE]) ?_
  simp only [go_sem]
  repeat' (first
    | simp only [IJS]
    | (refine E.CALL.use (eqC_l _ _ ?_ ?_) ?_ <;> (try simp only [go_sem]))
    | (refine E.GB.use (fun h => ?_) (fun h => ?_) <;> (simp only [go_sem, h]) <;> (try simp only [HFS] at h))
    | exact E.INDEP.mk2 (by kernel_rfl)
    | exact E.RK.mk (by kernel_rfl)
    | (refine E.IX_map ?_ (fun hx => ?_); rotate_left; simp only [go_sem])
    | (refine E.loopR (ι := Nat) 4 rfl (fun i => [(.s 5, .v (.c (.v (vi i))))]) [0, 1] [] [] (fun i => a.length - i) (fun i => i ≤ a.length ∧ a.length = b.length ∧ decide (a.drop i = b.drop i) = decide (a = b)) mix (by kernel_rfl) 0 ?_ ?_ (fun i ⟨hi, hl, hR⟩ => ?_); all_goals (try simp (maxSteps := 900000) only [go_sem]); all_goals (try dsimp only at hi hl hR))
    | (refine E.NEXT.use [] (i + 1) ?_ ?_ ?_; rotate_left 2; focus (simp (maxSteps := 900000) only [go_sem]; (repeat' (first | with_reducible rfl | exact E.RK.mk (by kernel_rfl) | apply And.intro | (push_cast; with_reducible rfl) | (refine E.int_c ?_; omega) | (simp only [go_sem]; done) | (rw [List.map_append]; rfl) | (simp; done) | (simp only [*]; done) | fail)); done))
    | apply And.intro
    | omega
    | (exact ga _ (E.at_mem (by omega)); done)
    | (exact gb _ (E.at_mem (by omega)); done)
    | (exact eqS_1 (by omega) (by omega) h hR; done)
    | (exact eqS_0 (by omega) (by omega) h hR; done)
    | (exact eqS_e (by omega) (by omega) hR; done)
    | (exact eqS_n (by omega); done)
    | fail)
theorem eqM_l (a : MLog) (b : MLog) (ha : MLB a) (hb : MLB b) : Fn Go.Proofs.Tryz.prog 49 [.a (eMLog false a), .a (eMLog false b)] [.a [.d, .d], .a [.d, .d]] [.c (.v (.bool (decide (a = b))))] := by
  refine E.Fn.ev (n := 16) mdL false mix Go.Proofs.Tryz.func49 rfl (by simp [Go.Proofs.Tryz.f49]) Go.Proofs.Tryz.ntmps49 (by simp) (by kernel_rfl) (rs := [.tmp 4]) (tys := [4]) rfl rfl (by simp [finOK, A.ts, OWN, ownE, ownT]) (by simp [resOK, A.ts, OWN, ownE, ownT, DE]) ?_
  simp only [go_sem]
  repeat' (first
    | simp only [IJS]
    | (refine E.CALL.use (eqCs_l _ _ ?_ ?_ ?_ ?_) ?_ <;> (try simp only [go_sem]))
    | (refine E.GB.use (fun h => ?_) (fun h => ?_) <;> (simp only [go_sem, h]) <;> (try simp only [HFS] at h))
    | apply And.intro
    | omega
    | (exact ha.len; done)
    | (exact hb.len; done)
    | (exact ha.confs; done)
    | (exact hb.confs; done)
    | (symm; rw [decide_eq_true_eq]; cases a; cases b; simp_all; done)
    | (symm; rw [decide_eq_false_iff_not]; intro e; subst e; simp_all; done)
    | fail)
theorem eqS_l (a : Srv) (b : Srv) (ha : SrvB a) (hb : SrvB b) : Fn Go.Proofs.Tryz.prog 103 [.a (eSrv false a), .a (eSrv false b)] [.a [.d, .d, .d, .d, .d, .d, .d, .d, .d, .d, .d, .d], .a [.d, .d, .d, .d, .d, .d, .d, .d, .d, .d, .d, .d]] [.c (.v (.bool (decide (a = b))))] := by
  refine E.Fn.ev (n := 53) mdL false mix Go.Proofs.Tryz.func103 rfl (by simp [Go.Proofs.Tryz.f103]) Go.Proofs.Tryz.ntmps103 (by simp) (by kernel_rfl) (rs := [.tmp 4]) (tys := [4]) rfl rfl (by simp [finOK, A.ts, OWN, ownE, ownT]) (by simp [resOK, A.ts, OWN, ownE, ownT, DE]) ?_
  simp only [go_sem]
  repeat' (first
    | simp only [IJS]
    | (refine E.CALL.use (eqC_l _ _ ?_ ?_) ?_ <;> (try simp only [go_sem]))
    | (refine E.CALL.use (eqE_l _ _ ?_ ?_) ?_ <;> (try simp only [go_sem]))
    | (refine E.GB.use (fun h => ?_) (fun h => ?_) <;> (simp only [go_sem, h]) <;> (try simp only [HFS] at h))
    | apply And.intro
    | omega
    | (exact SrvB.conf (by assumption); done)
    | (exact SrvB.log (by assumption); done)
    | (exact SrvB.learned (by assumption); done)
    | (symm; rw [decide_eq_true_eq]; cases a; cases b; simp_all; done)
    | (symm; rw [decide_eq_false_iff_not]; intro e; subst e; simp_all; done)
    | fail)
theorem eqSs_l (a : List Srv) (b : List Srv) (ha : a.length ≤ 1048576) (hb : b.length ≤ 1048576) (ga : ∀ x ∈ a, SrvB x) (gb : ∀ x ∈ b, SrvB x) : Fn Go.Proofs.Tryz.prog 47 [.c (.s false 12 (a.map (eSrv false))), .c (.s false 12 (b.map (eSrv false)))] [.c .d, .c .d] [.c (.v (.bool (decide (a = b))))] := by
  refine E.Fn.ev (n := 27) mdL false mix Go.Proofs.Tryz.func47 rfl (by simp [Go.Proofs.Tryz.f47]) Go.Proofs.Tryz.ntmps47 (by simp) (by kernel_rfl) (rs := [.tmp 4]) (tys := [4]) rfl rfl (by simp [finOK, A.ts, OWN, ownE, ownT]) (by simp [resOK, A.ts, OWN, ownE, ownT, DE]) ?_
  simp only [go_sem]
  repeat' (first
    | simp only [IJS]
    | (refine E.CALL.use (eqS_l _ _ ?_ ?_) ?_ <;> (try simp only [go_sem]))
    | (refine E.GB.use (fun h => ?_) (fun h => ?_) <;> (simp only [go_sem, h]) <;> (try simp only [HFS] at h))
    | exact E.INDEP.mk2 (by kernel_rfl)
    | exact E.RK.mk (by kernel_rfl)
    | (refine E.IX_map ?_ (fun hx => ?_); rotate_left; simp only [go_sem])
    | (refine E.loopR (ι := Nat) 4 rfl (fun i => [(.s 5, .v (.c (.v (vi i))))]) [0, 1] [] [] (fun i => a.length - i) (fun i => i ≤ a.length ∧ a.length = b.length ∧ decide (a.drop i = b.drop i) = decide (a = b)) mix (by kernel_rfl) 0 ?_ ?_ (fun i ⟨hi, hl, hR⟩ => ?_); all_goals (try simp (maxSteps := 900000) only [go_sem]); all_goals (try dsimp only at hi hl hR))
    | (refine E.NEXT.use [] (i + 1) ?_ ?_ ?_; rotate_left 2; focus (simp (maxSteps := 900000) only [go_sem]; (repeat' (first | with_reducible rfl | exact E.RK.mk (by kernel_rfl) | apply And.intro | (push_cast; with_reducible rfl) | (refine E.int_c ?_; omega) | (simp only [go_sem]; done) | (rw [List.map_append]; rfl) | (simp; done) | (simp only [*]; done) | fail)); done))
    | apply And.intro
    | omega
    | (exact ga _ (E.at_mem (by omega)); done)
    | (exact gb _ (E.at_mem (by omega)); done)
    | (exact eqS_1 (by omega) (by omega) h hR; done)
    | (exact eqS_0 (by omega) (by omega) h hR; done)
    | (exact eqS_e (by omega) (by omega) hR; done)
    | (exact eqS_n (by omega); done)
    | fail)
theorem eqU_l (a : Clu) (b : Clu) (ha : CluB a) (hb : CluB b) : Fn Go.Proofs.Tryz.prog 9 [.a (eClu false a), .a (eClu false b)] [.a [.d, .d, .d, .d, .d, .d, .d, .d, .d, .d], .a [.d, .d, .d, .d, .d, .d, .d, .d, .d, .d]] [.c (.v (.bool (decide (a = b))))] := by
  refine E.Fn.ev (n := 45) mdL false mix Go.Proofs.Tryz.func9 rfl (by simp [Go.Proofs.Tryz.f9]) Go.Proofs.Tryz.ntmps9 (by simp) (by kernel_rfl) (rs := [.tmp 4]) (tys := [4]) rfl rfl (by simp [finOK, A.ts, OWN, ownE, ownT]) (by simp [resOK, A.ts, OWN, ownE, ownT, DE]) ?_
  simp only [go_sem]
  repeat' (first
    | simp only [IJS]
    | (refine E.CALL.use (eqSs_l _ _ ?_ ?_ ?_ ?_) ?_ <;> (try simp only [go_sem]))
    | (refine E.CALL.use (eqIntS_l _ _ ?_ ?_) ?_ <;> (try simp only [go_sem]))
    | (refine E.CALL.use (eqM_l _ _ ?_ ?_) ?_ <;> (try simp only [go_sem]))
    | (refine E.CALL.use (eqLse_l _ _) ?_ <;> (try simp only [go_sem]))
    | (refine E.CALL.use (eqP_l _ _ ?_ ?_) ?_ <;> (try simp only [go_sem]))
    | (refine E.GB.use (fun h => ?_) (fun h => ?_) <;> (simp only [go_sem, h]) <;> (try simp only [HFS] at h))
    | apply And.intro
    | omega
    | (exact CluB.m (by assumption); done)
    | (exact CluB.sd (by assumption); done)
    | (exact CluB.pl (by assumption); done)
    | (exact CluB.sl (by assumption); done)
    | (exact ha.srvs; done)
    | (exact hb.srvs; done)
    | (symm; rw [decide_eq_true_eq]; cases a; cases b; simp_all; done)
    | (symm; rw [decide_eq_false_iff_not]; intro e; subst e; simp_all; done)
    | fail)
end
section
attribute [local go_sem] mdG_eq mdM toNat_pred setI List.length_set mdL_eq E.b_rem decE_self decN_self
theorem heldCs_l (l : List Conf) (k : Int) (hl : l.length ≤ 1048576) (hb : ∀ x ∈ l, ConfB x) (hk : 0 ≤ k) (hk2 : k ≤ 288230376151711744) : Fn Go.Proofs.Tryz.prog 109 [.c (.s false 4 (l.map (eConf false))), .c (.v (vi k))] [.c .d, .c .d] [.c (.v (vi (heldCs l k)))] := by
  refine E.Fn.ev (n := 49) mdL false mix Go.Proofs.Tryz.func109 rfl (by simp [Go.Proofs.Tryz.f109]) Go.Proofs.Tryz.ntmps109 (by simp) (by kernel_rfl) (rs := [.tmp 4]) (tys := [3]) rfl rfl (by simp [finOK, A.ts, OWN, ownE, ownT]) (by simp [resOK, A.ts, OWN, ownE, ownT, DE]) ?_
  simp only [go_sem]
  repeat' (first
    | simp only [IJS]
    | (refine E.CALL.use (heldI_l _ _ ?_ ?_ ?_) ?_ <;> (try simp only [go_sem]))
    | (refine E.GB.use (fun h => ?_) (fun h => ?_) <;> (simp only [go_sem, h]) <;> (try simp only [HFS] at h))
    | exact E.RK.mk (by kernel_rfl)
    | (refine E.IX_map ?_ (fun hx => ?_); rotate_left; simp only [go_sem])
    | (refine E.loopR (ι := Nat × Int) 2 rfl (fun ⟨i, kk⟩ => [(.s 5, .v (.c (.v (vi i)))), (.s 1, .v (.c (.v (vi kk))))]) [0, 48] [] [] (fun ⟨i, kk⟩ => l.length - i) (fun ⟨i, kk⟩ => i ≤ l.length ∧ 0 ≤ kk ∧ kk ≤ k + 2097154 * i ∧ heldCs (l.drop i) kk = heldCs l k) mix (by kernel_rfl) (0, k) ?_ ?_ (fun ⟨i, kk⟩ ⟨hi, hk0, hk1, hR⟩ => ?_); all_goals (try simp (maxSteps := 900000) only [go_sem]); all_goals (try dsimp only at hi hk0 hk1 hR))
    | (refine E.NEXT.use [] (i + 1, heldI (at' l i).wits (heldI (at' l i).reps (kk + 1 + 1))) ?_ ?_ ?_; rotate_left 2; focus (simp (maxSteps := 900000) only [go_sem]; (repeat' (first | with_reducible rfl | exact E.RK.mk (by kernel_rfl) | apply And.intro | (push_cast; with_reducible rfl) | (refine E.int_c ?_; omega) | (simp only [go_sem]; done) | (rw [List.map_append]; rfl) | (simp; done) | (simp only [*]; done) | fail)); done))
    | apply And.intro
    | omega
    | (exact (hb _ (E.at_mem (by omega))).r; done)
    | (exact (hb _ (E.at_mem (by omega))).w; done)
    | (have g1 := hb (at' l i) (E.at_mem (by omega)); have g2 := heldI_b (at' l i).reps (kk + 1 + 1) (by omega); have g3 := g1.r; have g4 := g1.w; omega; done)
    | (have g1 := hb (at' l i) (E.at_mem (by omega)); have g2 := heldI_b (at' l i).reps (kk + 1 + 1) (by omega); have g3 := g1.r; have g4 := g1.w; have g5 := heldI_b (at' l i).wits (heldI (at' l i).reps (kk + 1 + 1)) (by omega); omega; done)
    | (exact heldCs_f (by omega) hR (by omega); done)
    | (exact heldCs_y (by omega) hR (by omega); done)
    | (rw [E.drop_end (l := l) (i := i) (by omega)] at hR; simp only [heldCs] at hR; rw [← hR]; done)
    | fail)
theorem heldM_l (a : MLog) (k : Int) (hM : MLB a) (hk : 0 ≤ k) (hk2 : k ≤ 288230376151711744) : Fn Go.Proofs.Tryz.prog 58 [.a (eMLog false a), .c (.v (vi k))] [.a [.d, .d], .c .d] [.c (.v (vi (heldCs a.confs k)))] := by
  refine E.Fn.ev (n := 12) mdL false mix Go.Proofs.Tryz.func58 rfl (by simp [Go.Proofs.Tryz.f58]) Go.Proofs.Tryz.ntmps58 (by simp) (by kernel_rfl) (rs := [.tmp 4]) (tys := [3]) rfl rfl (by simp [finOK, A.ts, OWN, ownE, ownT]) (by simp [resOK, A.ts, OWN, ownE, ownT, DE]) ?_
  simp only [go_sem]
  repeat' (first
    | simp only [IJS]
    | (refine E.CALL.use (heldCs_l _ _ ?_ ?_ ?_ ?_) ?_ <;> (try simp only [go_sem]))
    | (refine E.GB.use (fun h => ?_) (fun h => ?_) <;> (simp only [go_sem, h]) <;> (try simp only [HFS] at h))
    | apply And.intro
    | omega
    | (exact hM.len; done)
    | (exact hM.confs; done)
    | (exact heldCs_n _ _ hk h; done)
    | fail)
end
section
attribute [local go_sem] mdG_eq mdM toNat_pred setI List.length_set mdL_eq E.b_rem decE_self decN_self
theorem heldSs_l (l : List Srv) (k : Int) (hl : l.length ≤ 1048576) (hb : ∀ x ∈ l, SrvB x) (hk : 0 ≤ k) (hk2 : k ≤ 144115188075855872) : Fn Go.Proofs.Tryz.prog 56 [.c (.s false 12 (l.map (eSrv false))), .c (.v (vi k))] [.c .d, .c .d] [.c (.v (vi (heldSs l k)))] := by
  refine E.Fn.ev (n := 129) mdL false mix Go.Proofs.Tryz.func56 rfl (by simp [Go.Proofs.Tryz.f56]) Go.Proofs.Tryz.ntmps56 (by simp) (by kernel_rfl) (rs := [.tmp 4]) (tys := [3]) rfl rfl (by simp [finOK, A.ts, OWN, ownE, ownT]) (by simp [resOK, A.ts, OWN, ownE, ownT, DE]) ?_
  simp only [go_sem]
  repeat' (first
    | simp only [IJS]
    | (refine E.CALL.use (heldI_l _ _ ?_ ?_ ?_) ?_ <;> (try simp only [go_sem]))
    | (refine E.CALL.use (heldE_l _ _ ?_ ?_ ?_) ?_ <;> (try simp only [go_sem]))
    | (refine E.GB.use (fun h => ?_) (fun h => ?_) <;> (simp only [go_sem, h]) <;> (try simp only [HFS] at h))
    | exact E.RK.mk (by kernel_rfl)
    | (refine E.IX_map ?_ (fun hx => ?_); rotate_left; simp only [go_sem])
    | (refine E.loopR (ι := Nat × Int) 2 rfl (fun ⟨i, kk⟩ => [(.s 5, .v (.c (.v (vi i)))), (.s 1, .v (.c (.v (vi kk))))]) [0, 128] [] [] (fun ⟨i, kk⟩ => l.length - i) (fun ⟨i, kk⟩ => i ≤ l.length ∧ 0 ≤ kk ∧ kk ≤ k + 16777224 * i ∧ heldSs (l.drop i) kk = heldSs l k) mix (by kernel_rfl) (0, k) ?_ ?_ (fun ⟨i, kk⟩ ⟨hi, hk0, hk1, hR⟩ => ?_); all_goals (try simp (maxSteps := 900000) only [go_sem]); all_goals (try dsimp only at hi hk0 hk1 hR))
    | (refine E.NEXT.use [] (i + 1, hG1 (at' l i) kk) ?_ ?_ ?_; rotate_left 2; focus (simp (maxSteps := 900000) only [go_sem]; (repeat' (first | with_reducible rfl | exact E.RK.mk (by kernel_rfl) | apply And.intro | (push_cast; with_reducible rfl) | (refine E.int_c ?_; omega) | (simp only [go_sem]; done) | (rw [List.map_append]; rfl) | (simp; done) | (simp only [*]; done) | ((refine E.int_c ?_; rfl); done) | fail)); done))
    | apply And.intro
    | omega
    | (exact (hb _ (E.at_mem (by omega))).conf.r; done)
    | (exact (hb _ (E.at_mem (by omega))).conf.w; done)
    | (exact (hb _ (E.at_mem (by omega))).log; done)
    | (exact (hb _ (E.at_mem (by omega))).learned; done)
    | (have g1 := hb (at' l i) (E.at_mem (by omega)); have g2 := g1.conf.r; have g3 := g1.conf.w; have g4 := g1.log; have g5 := g1.learned; have a1 := heldI_b (at' l i).conf.reps (kk + 1 + 1 + 1 + 1 + 1 + 1) (by omega); omega; done)
    | (have g1 := hb (at' l i) (E.at_mem (by omega)); have g2 := g1.conf.r; have g3 := g1.conf.w; have g4 := g1.log; have g5 := g1.learned; have a1 := heldI_b (at' l i).conf.reps (kk + 1 + 1 + 1 + 1 + 1 + 1) (by omega); have a2 := heldI_b (at' l i).conf.wits (heldI (at' l i).conf.reps (kk + 1 + 1 + 1 + 1 + 1 + 1)) (by omega); omega; done)
    | (have g1 := hb (at' l i) (E.at_mem (by omega)); have g2 := g1.conf.r; have g3 := g1.conf.w; have g4 := g1.log; have g5 := g1.learned; have a1 := heldI_b (at' l i).conf.reps (kk + 1 + 1 + 1 + 1 + 1 + 1) (by omega); have a2 := heldI_b (at' l i).conf.wits (heldI (at' l i).conf.reps (kk + 1 + 1 + 1 + 1 + 1 + 1)) (by omega); have a3 := heldE_b (at' l i).log (heldI (at' l i).conf.wits (heldI (at' l i).conf.reps (kk + 1 + 1 + 1 + 1 + 1 + 1)) + 1) (by omega); omega; done)
    | (have g1 := hb (at' l i) (E.at_mem (by omega)); have g2 := g1.conf.r; have g3 := g1.conf.w; have g4 := g1.log; have g5 := g1.learned; have a1 := heldI_b (at' l i).conf.reps (kk + 1 + 1 + 1 + 1 + 1 + 1) (by omega); have a2 := heldI_b (at' l i).conf.wits (heldI (at' l i).conf.reps (kk + 1 + 1 + 1 + 1 + 1 + 1)) (by omega); have a3 := heldE_b (at' l i).log (heldI (at' l i).conf.wits (heldI (at' l i).conf.reps (kk + 1 + 1 + 1 + 1 + 1 + 1)) + 1) (by omega); have a4 := heldE_b (at' l i).learned (heldE (at' l i).log (heldI (at' l i).conf.wits (heldI (at' l i).conf.reps (kk + 1 + 1 + 1 + 1 + 1 + 1)) + 1) + 1) (by omega); change heldE (at' l i).learned (heldE (at' l i).log (heldI (at' l i).conf.wits (heldI (at' l i).conf.reps (kk + 1 + 1 + 1 + 1 + 1 + 1)) + 1) + 1) ≤ _; omega; done)
    | (change 0 ≤ heldE (at' l i).learned (heldE (at' l i).log (heldI (at' l i).conf.wits (heldI (at' l i).conf.reps (kk + 1 + 1 + 1 + 1 + 1 + 1)) + 1) + 1); omega; done)
    | (exact heldSs_f1 (by omega) hR (by assumption); done)
    | (exact heldSs_f2 (by omega) hR (by assumption); done)
    | (exact heldSs_f3 (by omega) hR (by omega); done)
    | (exact heldSs_ok (by omega) hR (by assumption) (by assumption) (by omega); done)
    | (rw [E.drop_end (l := l) (i := i) (by omega)] at hR; simp only [heldSs] at hR; rw [← hR]; done)
    | fail)
theorem heldU_l (a : Clu) (k : Int) (hB : CluB a) (hk : 0 ≤ k) (hk2 : k ≤ 72057594037927936) : Fn Go.Proofs.Tryz.prog 11 [.a (eClu false a), .c (.v (vi k))] [.a [.d, .d, .d, .d, .d, .d, .d, .d, .d, .d], .c .d] [.c (.v (vi (heldU a k)))] := by
  refine E.Fn.ev (n := 30) mdL false mix Go.Proofs.Tryz.func11 rfl (by simp [Go.Proofs.Tryz.f11]) Go.Proofs.Tryz.ntmps11 (by simp) (by kernel_rfl) (rs := [.tmp 4]) (tys := [3]) rfl rfl (by simp [finOK, A.ts, OWN, ownE, ownT]) (by simp [resOK, A.ts, OWN, ownE, ownT, DE]) ?_
  simp only [go_sem]
  repeat' (first
    | simp only [IJS]
    | (refine E.CALL.use (heldSs_l _ _ ?_ ?_ ?_ ?_) ?_ <;> (try simp only [go_sem]))
    | (refine E.CALL.use (heldI_l _ _ ?_ ?_ ?_) ?_ <;> (try simp only [go_sem]))
    | (refine E.CALL.use (heldM_l _ _ ?_ ?_ ?_) ?_ <;> (try simp only [go_sem]))
    | (refine E.CALL.use (heldP_l _ _ ?_ ?_ ?_) ?_ <;> (try simp only [go_sem]))
    | (refine E.GB.use (fun h => ?_) (fun h => ?_) <;> (simp only [go_sem, h]) <;> (try simp only [HFS] at h))
    | apply And.intro
    | omega
    | (exact hB.srvs; done)
    | (exact hB.sl; done)
    | (exact hB.sd; done)
    | (exact hB.m; done)
    | (exact hB.pl; done)
    | (have g1 := hB.sl; have g2 := hB.sd; have g3 := hB.m.len; have g4 := hB.pl; have a1 := heldSs_b a.srvs k hB.srvs hk; omega; done)
    | (have g1 := hB.sl; have g2 := hB.sd; have g3 := hB.m.len; have g4 := hB.pl; have a1 := heldSs_b a.srvs k hB.srvs hk; have a2 := heldI_b a.sides (heldSs a.srvs k) (by omega); omega; done)
    | (have g1 := hB.sl; have g2 := hB.sd; have g3 := hB.m.len; have g4 := hB.pl; have a1 := heldSs_b a.srvs k hB.srvs hk; have a2 := heldI_b a.sides (heldSs a.srvs k) (by omega); have a3 := heldCs_b a.mast.confs (heldI a.sides (heldSs a.srvs k)) hB.m.confs (by omega); omega; done)
    | (unfold heldU; dsimp only; rw [if_pos (by omega)]; done)
    | (unfold heldU; dsimp only; rw [if_neg (by omega), if_pos (by omega)]; done)
    | (unfold heldU; dsimp only; rw [if_neg (by omega), if_neg (by omega), if_pos (by omega)]; done)
    | (unfold heldU; dsimp only; rw [if_neg (by omega), if_neg (by omega), if_neg (by omega), if_pos (by omega)]; done)
    | (unfold heldU; dsimp only; rw [if_neg (by omega), if_neg (by omega), if_neg (by omega), if_neg (by omega)]; done)
    | fail)
end
section
attribute [local go_sem] mdG_eq mdM toNat_pred setI List.length_set mdL_eq E.b_rem decE_self decN_self mkL_len mkL_at List.set_set E.rawCs_nil E.rawCs_s E.rawCs_v E.take_s markI_len markE_len
theorem markM_l (a : MLog) (k : Int) (hM : MLB a) (hk : 0 ≤ k) (hk2 : k ≤ 288230376151711744) : Fn Go.Proofs.Tryz.prog 54 [.a (eMLog true a), .c (.v (vi k))] [.a [.s true 4 ((markCs a.confs k).map (eConf true)), .d], .c .d] [.c (.v (vi (endCs a.confs k)))] := by
  refine E.Fn.evH (n := 10) Go.Proofs.Tryz.func54 rfl (by simp [Go.Proofs.Tryz.f54]) Go.Proofs.Tryz.ntmps54 (by simp) (rs := [.tmp 4]) (tys := [3]) rfl rfl (by simp [finOK, A.ts, OWN, ownE, ownT, DE]) (by simp [resOK, A.ts, OWN, ownE, ownT, DE]) (fun H rv hR => ?_)
  have hR0 : ∀ j sz es, (eMLog true a)[j]? = some (.s true sz es) → (rv j).oneCell' = true := fun j sz es h => (hR j sz es h).one
  have r0 := hR 0 _ _ rfl
  have q0 := r0.one
  clear hR hR0
  simp only [go_sem]
  repeat' (first
    | (refine E.CALL.use (markCs_l _ _ ?_ ?_ ?_ ?_) ?_ <;> (try simp only [go_sem]))
    | simp only [IJS]
    | (refine E.evh_seq ?_; refine E.evh_reg (id := 0) mdL false (by rfl) ?_; simp only [go_sem])
    | (refine E.evh_seq ?_; refine E.evh_conv (id := 1) mdL false 3 6 [some (0, 0)] (by rfl) ?_; dsimp only [List.take, List.drop]; simp only [go_sem])
    | (apply E.CVT.use1 (t := 6); exact rfl; exact rfl; exact r0; simp only [go_sem])
    | (refine E.evh_seq ?_; refine E.evh_reg (id := 2) mdL false (by rfl) ?_; simp only [go_sem])
    | (refine E.evh_ret ?_; simp only [go_sem])
    | apply And.intro
    | omega
    | (exact hM.len; done)
    | (exact hM.confs; done)
    | (assumption; done)
    | (exact markCs_len _ _; done)
    | fail)
end
end Go.Abs

/- Contracts of functions of the program, over the abstract machine, and facts for them. No condition. -/
import Derived.Test.YtedbdcjpdamhcaaGreatFacts
import Derived.Test.YtedbdcjpdamhcaaGreatPure17
import Derived.Test.YtedbdcjpdamhcaaGreatQ10
import Derived.Test.YtedbdcjpdamhcaaGreatQ3
import Derived.Test.YtedbdcjpdamhcaaGreatQ8
set_option linter.unusedVariables false
set_option linter.unusedSimpArgs false
set_option linter.unnecessarySimpa false
set_option linter.constructorNameAsVariable false
set_option maxHeartbeats 4000000
set_option maxRecDepth 100000
namespace Go.Abs
open Go
attribute [local go_sem ↓] E.argsA_h E.wq_ret E.wq_req E.wq_bad E.wq_call E.wq_get E.wq_getO E.wq_getOs E.wq_getPs E.wq_fresh E.wq_anyNil E.wq_getR0 E.wq_getR E.wq_ixM E.wq_n E.wq_g E.wq_gn E.ev_skip E.ev_region E.ev_draw E.ev_seq E.ev_cond E.ev_block E.ev_exit E.ev_ret E.sq_n E.sq_e E.sq_r E.bl_n E.bl_e E.bl_r E.lp_n E.lp_e E.lp_r E.fk_n E.fk_r E.q_move E.q_assign E.q_pick E.q_bin E.q_binw E.q_un E.q_alloc E.q_box E.q_build E.q_buildS E.q_makeS E.q_load E.q_store E.q_nilCheck E.q_slice E.q_fieldAddr E.q_field E.q_indexAddr E.q_extract E.q_makeFunc E.q_call E.q_callT E.q_len E.q_append E.q_min E.q_max E.q_convert E.q_cap E.q_clear appendIM appendZM E.b_add E.b_sub E.b_mul E.b_eql E.b_neq E.b_lss E.b_leq E.b_gtr E.b_geq E.GO_tmp E.GO_int E.GO_bool E.GO_str E.GO_nil E.GO_func E.GOs_nil E.GOs_cons E.GPs_nil E.GPs_cons E.RW_nil E.RW_cons E.dstAt_0 E.dstAt_s E.keepL_nil E.keepL_s E.keepL_k E.rmN_nil E.rmN_cons E.memN_nil E.memN_cons E.memK_nil E.memK_cons E.ovl_nil E.ovl_kk E.ovl_sk E.ovl_ks E.ovl_ss ofL_s ofL_sk ofL_ks ofL_k ofL_nil E.CO_tmp E.CO_bool
attribute [local go_sem] E.RM_nil E.RM_cons E.kd_k E.sbr_eq E.s3_nil E.s3_s E.s3_k E.vr_c E.vr_a E.vr_p E.vr_q E.vr_t E.vr_f E.vr_u E.cr_r E.cr_v E.cr_b E.cr_n E.cr_u E.crs_nil E.crs_cons E.renK_nil E.renK_cons keysVs V.keys C.keys keysCs E.RG_nil E.RG_cons E.GV_v E.GB_true E.GB_false E.GX_b E.GG_t E.GG_f E.GG_u E.GU_some E.IX_0 E.IX_s E.CX_s E.FR_none E.EN_e E.GVB_b E.b_boolM E.b_nilM E.b_strM E.b_aggM
attribute [local go_sem] List.cons_append List.nil_append List.append_nil List.length_cons List.length_nil List.length_map List.length_append callM E.argsH_nil E.argsH_cons E.argH_c E.argH_a E.argH_f E.cellsH_nil E.cellsH_cons E.cellH_v E.cellH_b E.cellH_n E.cellH_nt E.cellH_u E.cellH_rt E.cellH_rf capsA capA callable backs backT resVs resV resC tupV lenV intV boolV getE getO entryL entryKs A.ts entryV entryC entryCs entryCap List.map_cons List.map_nil E.cut_n E.cut_r E.cutM plainL A.capOK szEs szE szT SZ whole toB toC List.drop_zero List.take_zero List.take_succ_cons List.drop_succ_cons resultsM resultM outM outM1 convs conv finAs finA finT finTs Int.toNat_natCast A.plain T.plain List.isEmpty_nil List.isEmpty_cons Bool.or_true Bool.true_or Bool.and_self List.getElem?_cons_zero List.getElem?_cons_succ Option.bind_some Option.bind_none Option.bind Nat.zero_add Nat.add_zero OWN BOR ONE SCAL DE ETA E.take_rest Int.toNat_zero E.take_map E.drop_map E.take_len1 List.take_length E.app_map Int.natCast_zero Int.sub_zero Int.toNat_sub partCells V.cells convsL appendM srcM E.scalEs_nil E.scalEs_cons E.oneEs_nil E.oneEs_cons List.all_cons List.all_nil T.one Bool.and_true gone ownEs ownE ownT borEs borE borT setRow splice List.set_cons_zero List.set_cons_succ optI getOpt sliceM ptrTo app_ofL T.isV Value.oneCell' fillC zeroC spliceC allV eqVs eqV minV maxV setAt setCell holed List.dropLast List.getLast?_singleton Option.getD_some Option.isSome_some Option.isSome_none Bool.and_false Bool.true_and Bool.false_and Option.map_some Option.map_none false_or true_or or_true rowAt cellAt E.constV_nil E.constV_int E.constV_bool E.constV_str E.setCell_set E.setCell_len setRow setAt List.dropLast_cons_cons List.dropLast_singleton List.getLast?_cons_cons
attribute [local go_sem_proc ↓] reduceIte
attribute [local go_sem_proc] Nat.reduceEqDiff reduceCtorEq Nat.reduceAdd Nat.reduceMul
attribute [local irreducible] E.argsH E.argH E.cellsH E.cellH E.GV E.GB E.GX E.GG E.GU E.IX E.CX E.RW E.FR E.EN E.CALL E.GO E.GOs E.GPs E.GVB E.KD E.RM E.RG E.CO E.WQ E.EV E.SQ E.BL E.LP E.FK E.S3 E.RK E.NEXT E.NQ E.INDEP
attribute [local go_sem] mdG_eq mdM toNat_pred setI List.length_set mdL_eq E.b_rem
theorem toOp_l (a : ROp) : Fn Go.Proofs.Tryz.prog 131 [.a (eROp a)] [.a [.d, .d, .d, .d, .d, .d]] [.a (eROp (a))] := by
  refine E.Fn.ev (n := 23) mdL false mix Go.Proofs.Tryz.func131 rfl (by simp [Go.Proofs.Tryz.f131]) Go.Proofs.Tryz.ntmps131 (by simp) (by kernel_rfl) (rs := [.cell 2 119]) (tys := [119]) rfl rfl (by simp [finOK, A.ts, OWN, ownE, ownT]) (by simp [resOK, A.ts, OWN, ownE, ownT, DE]) ?_
  simp only [go_sem]
  repeat' (first
    | simp only [IJS]
    | apply And.intro
    | omega
    | fail)
theorem toEnt_l (a : LEnt) : Fn Go.Proofs.Tryz.prog 123 [.a (eLEnt a)] [.a [.d, .d, .d, .d, .d, .d, .d]] [.a (eLEnt (a))] := by
  refine E.Fn.ev (n := 12) mdL false mix Go.Proofs.Tryz.func123 rfl (by simp [Go.Proofs.Tryz.f123]) Go.Proofs.Tryz.ntmps123 (by simp) (by kernel_rfl) (rs := [.cell 2 121]) (tys := [121]) rfl rfl (by simp [finOK, A.ts, OWN, ownE, ownT]) (by simp [resOK, A.ts, OWN, ownE, ownT, DE]) ?_
  simp only [go_sem]
  repeat' (first
    | simp only [IJS]
    | (refine E.CALL.use (toOp_l _) ?_ <;> (try simp only [go_sem]))
    | apply And.intro
    | omega
    | fail)
theorem toPlc_l (a : Plc) : Fn Go.Proofs.Tryz.prog 75 [.a (ePlc a)] [.a [.d, .d, .d]] [.a (ePlc (a))] := by
  refine E.Fn.ev (n := 14) mdL false mix Go.Proofs.Tryz.func75 rfl (by simp [Go.Proofs.Tryz.f75]) Go.Proofs.Tryz.ntmps75 (by simp) (by kernel_rfl) (rs := [.cell 2 106]) (tys := [106]) rfl rfl (by simp [finOK, A.ts, OWN, ownE, ownT]) (by simp [resOK, A.ts, OWN, ownE, ownT, DE]) ?_
  simp only [go_sem]
  repeat' (first
    | simp only [IJS]
    | apply And.intro
    | omega
    | fail)
theorem toLse_l (a : Lse) : Fn Go.Proofs.Tryz.prog 29 [.a (eLse a)] [.a [.d, .d, .d]] [.a (eLse (a))] := by
  refine E.Fn.ev (n := 14) mdL false mix Go.Proofs.Tryz.func29 rfl (by simp [Go.Proofs.Tryz.f29]) Go.Proofs.Tryz.ntmps29 (by simp) (by kernel_rfl) (rs := [.cell 2 41]) (tys := [41]) rfl rfl (by simp [finOK, A.ts, OWN, ownE, ownT]) (by simp [resOK, A.ts, OWN, ownE, ownT, DE]) ?_
  simp only [go_sem]
  repeat' (first
    | simp only [IJS]
    | apply And.intro
    | omega
    | fail)
theorem toI_l (l : List Int) (hl : l.length ≤ 1048576) : Fn Go.Proofs.Tryz.prog 27 [.c (.s false 1 (l.map eInt))] [.c .d] [.c (.s true 1 ((l).map eInt))] := by
  refine E.Fn.ev (n := 22) mdL false mix Go.Proofs.Tryz.func27 rfl (by simp [Go.Proofs.Tryz.f27]) Go.Proofs.Tryz.ntmps27 (by simp) (by kernel_rfl) (rs := [.tmp 2]) (tys := [23]) rfl rfl (by simp [finOK, A.ts, OWN, ownE, ownT]) (by simp [resOK, A.ts, OWN, ownE, ownT, DE]) ?_
  simp only [go_sem]
  repeat' (first
    | simp only [IJS]
    | (refine E.GB.use (fun h => ?_) (fun h => ?_) <;> (simp only [go_sem, h]) <;> (try simp only [HFS] at h))
    | exact E.RK.mk (by kernel_rfl)
    | (refine E.IX_map ?_ (fun hx => ?_); rotate_left; simp only [go_sem])
    | (refine E.loopR (ι := Nat) 3 rfl (fun i => [(.s 4, .v (.c (.v (vi i)))), (.k (7, 0), .e ⟨0, 1, (E.cp l i (0 : Int)).map eInt⟩)]) [0, 2, 3, 21] [(7, 0)] [] (fun i => l.length - i) (fun i => i ≤ l.length ∧ (E.cp l i (0 : Int)).length = l.length) mix (by kernel_rfl) 0 ?_ ?_ (fun i ⟨hi, hw⟩ => ?_); all_goals (try simp (maxSteps := 900000) only [go_sem]); all_goals (try dsimp only at hi hw))
    | (refine E.NEXT.use [] (i + 1) ?_ ?_ ?_; rotate_left 2; focus (simp (maxSteps := 900000) only [go_sem]; (repeat' (first | with_reducible rfl | exact E.RK.mk (by kernel_rfl) | apply And.intro | (push_cast; with_reducible rfl) | (refine E.int_c ?_; omega) | (simp only [go_sem]; done) | (rw [List.map_append]; rfl) | (simp; done) | (simp only [*]; done) | (rw [← E.cp_set, List.map_set] <;> first | rfl | omega; done) | fail)); done))
    | apply And.intro
    | omega
    | refine congrArg (List.map _) ?_
    | (rw [E.cp_len (by omega)]; done)
    | (rw [E.cp_zero, ← zeros]; rfl; done)
    | (have e : i = l.length := (by omega); subst e; rw [E.cp_full]; done)
    | fail)
theorem toE_l (l : List LEnt) (hl : l.length ≤ 1048576) : Fn Go.Proofs.Tryz.prog 106 [.c (.s false 7 (l.map eLEnt))] [.c .d] [.c (.s true 7 ((l).map eLEnt))] := by
  refine E.Fn.ev (n := 23) mdL false mix Go.Proofs.Tryz.func106 rfl (by simp [Go.Proofs.Tryz.f106]) Go.Proofs.Tryz.ntmps106 (by simp) (by kernel_rfl) (rs := [.tmp 2]) (tys := [60]) rfl rfl (by simp [finOK, A.ts, OWN, ownE, ownT]) (by simp [resOK, A.ts, OWN, ownE, ownT, DE]) ?_
  simp only [go_sem]
  repeat' (first
    | simp only [IJS]
    | (refine E.CALL.use (toEnt_l _) ?_ <;> (try simp only [go_sem]))
    | (refine E.GB.use (fun h => ?_) (fun h => ?_) <;> (simp only [go_sem, h]) <;> (try simp only [HFS] at h))
    | exact E.RK.mk (by kernel_rfl)
    | (refine E.IX_map ?_ (fun hx => ?_); rotate_left; simp only [go_sem])
    | (refine E.loopR (ι := Nat) 3 rfl (fun i => [(.s 4, .v (.c (.v (vi i)))), (.k (7, 0), .e ⟨0, 7, (E.cp l i (default : LEnt)).map eLEnt⟩)]) [0, 2, 3, 22] [(7, 0)] [] (fun i => l.length - i) (fun i => i ≤ l.length ∧ (E.cp l i (default : LEnt)).length = l.length) mix (by kernel_rfl) 0 ?_ ?_ (fun i ⟨hi, hw⟩ => ?_); all_goals (try simp (maxSteps := 900000) only [go_sem]); all_goals (try dsimp only at hi hw))
    | (refine E.NEXT.use [] (i + 1) ?_ ?_ ?_; rotate_left 2; focus (simp (maxSteps := 900000) only [go_sem]; (repeat' (first | with_reducible rfl | exact E.RK.mk (by kernel_rfl) | apply And.intro | (push_cast; with_reducible rfl) | (refine E.int_c ?_; omega) | (simp only [go_sem]; done) | (rw [List.map_append]; rfl) | (simp; done) | (simp only [*]; done) | (rw [← E.cp_set, List.map_set] <;> first | rfl | omega; done) | fail)); done))
    | apply And.intro
    | omega
    | refine congrArg (List.map _) ?_
    | (rw [E.cp_len (by omega)]; done)
    | (rw [E.cp_zero, ← zeros]; rfl; done)
    | (have e : i = l.length := (by omega); subst e; rw [E.cp_full]; done)
    | fail)
theorem toP_l (l : List Plc) (hl : l.length ≤ 1048576) : Fn Go.Proofs.Tryz.prog 30 [.c (.s false 3 (l.map ePlc))] [.c .d] [.c (.s true 3 ((l).map ePlc))] := by
  refine E.Fn.ev (n := 23) mdL false mix Go.Proofs.Tryz.func30 rfl (by simp [Go.Proofs.Tryz.f30]) Go.Proofs.Tryz.ntmps30 (by simp) (by kernel_rfl) (rs := [.tmp 2]) (tys := [42]) rfl rfl (by simp [finOK, A.ts, OWN, ownE, ownT]) (by simp [resOK, A.ts, OWN, ownE, ownT, DE]) ?_
  simp only [go_sem]
  repeat' (first
    | simp only [IJS]
    | (refine E.CALL.use (toPlc_l _) ?_ <;> (try simp only [go_sem]))
    | (refine E.GB.use (fun h => ?_) (fun h => ?_) <;> (simp only [go_sem, h]) <;> (try simp only [HFS] at h))
    | exact E.RK.mk (by kernel_rfl)
    | (refine E.IX_map ?_ (fun hx => ?_); rotate_left; simp only [go_sem])
    | (refine E.loopR (ι := Nat) 3 rfl (fun i => [(.s 4, .v (.c (.v (vi i)))), (.k (7, 0), .e ⟨0, 3, (E.cp l i (default : Plc)).map ePlc⟩)]) [0, 2, 3, 22] [(7, 0)] [] (fun i => l.length - i) (fun i => i ≤ l.length ∧ (E.cp l i (default : Plc)).length = l.length) mix (by kernel_rfl) 0 ?_ ?_ (fun i ⟨hi, hw⟩ => ?_); all_goals (try simp (maxSteps := 900000) only [go_sem]); all_goals (try dsimp only at hi hw))
    | (refine E.NEXT.use [] (i + 1) ?_ ?_ ?_; rotate_left 2; focus (simp (maxSteps := 900000) only [go_sem]; (repeat' (first | with_reducible rfl | exact E.RK.mk (by kernel_rfl) | apply And.intro | (push_cast; with_reducible rfl) | (refine E.int_c ?_; omega) | (simp only [go_sem]; done) | (rw [List.map_append]; rfl) | (simp; done) | (simp only [*]; done) | (rw [← E.cp_set, List.map_set] <;> first | rfl | omega; done) | fail)); done))
    | apply And.intro
    | omega
    | refine congrArg (List.map _) ?_
    | (rw [E.cp_len (by omega)]; done)
    | (rw [E.cp_zero, ← zeros]; rfl; done)
    | (have e : i = l.length := (by omega); subst e; rw [E.cp_full]; done)
    | fail)
theorem toC_l (a : Conf) (hB : ConfB a) : Fn Go.Proofs.Tryz.prog 105 [.a (eConf false a)] [.a [.d, .d, .d, .d]] [.a (eConf true (a))] := by
  refine E.Fn.ev (n := 19) mdL false mix Go.Proofs.Tryz.func105 rfl (by simp [Go.Proofs.Tryz.f105]) Go.Proofs.Tryz.ntmps105 (by simp) (by kernel_rfl) (rs := [.cell 2 34]) (tys := [34]) rfl rfl (by simp [finOK, A.ts, OWN, ownE, ownT]) (by simp [resOK, A.ts, OWN, ownE, ownT, DE]) ?_
  simp only [go_sem]
  repeat' (first
    | simp only [IJS]
    | (refine E.CALL.use (toI_l _ ?_) ?_ <;> (try simp only [go_sem]))
    | apply And.intro
    | omega
    | (exact ConfB.r (by assumption); done)
    | (exact ConfB.w (by assumption); done)
    | fail)
theorem toCs_l (l : List Conf) (hl : l.length ≤ 1048576) (hb : ∀ x ∈ l, ConfB x) : Fn Go.Proofs.Tryz.prog 74 [.c (.s false 4 (l.map (eConf false)))] [.c .d] [.c (.s true 4 ((l).map (eConf true)))] := by
  refine E.Fn.ev (n := 23) mdL false mix Go.Proofs.Tryz.func74 rfl (by simp [Go.Proofs.Tryz.f74]) Go.Proofs.Tryz.ntmps74 (by simp) (by kernel_rfl) (rs := [.tmp 2]) (tys := [38]) rfl rfl (by simp [finOK, A.ts, OWN, ownE, ownT]) (by simp [resOK, A.ts, OWN, ownE, ownT, DE]) ?_
  simp only [go_sem]
  repeat' (first
    | simp only [IJS]
    | (refine E.CALL.use (toC_l _ ?_) ?_ <;> (try simp only [go_sem]))
    | (refine E.GB.use (fun h => ?_) (fun h => ?_) <;> (simp only [go_sem, h]) <;> (try simp only [HFS] at h))
    | exact E.RK.mk (by kernel_rfl)
    | (refine E.IX_map ?_ (fun hx => ?_); rotate_left; simp only [go_sem])
    | (refine E.loopR (ι := Nat × Nat) 3 rfl (fun ⟨i, v⟩ => [(.s 4, .v (.c (.v (vi i)))), (.k (7, 0), .e ⟨v, 4, (E.cp l i (default : Conf)).map (eConf true)⟩)]) [0, 2, 3, 22] [(7, 0)] [] (fun ⟨i, v⟩ => l.length - i) (fun ⟨i, v⟩ => i ≤ l.length ∧ (E.cp l i (default : Conf)).length = l.length) mix (by kernel_rfl) (0, 0) ?_ ?_ (fun ⟨i, v⟩ ⟨hi, hw⟩ => ?_); all_goals (try simp (maxSteps := 900000) only [go_sem]); all_goals (try dsimp only at hi hw))
    | (refine E.NEXT.use [] (i + 1, v + 1) ?_ ?_ ?_; rotate_left 2; focus (simp (maxSteps := 900000) only [go_sem]; (repeat' (first | with_reducible rfl | exact E.RK.mk (by kernel_rfl) | apply And.intro | (push_cast; with_reducible rfl) | (refine E.int_c ?_; omega) | (simp only [go_sem]; done) | (rw [List.map_append]; rfl) | (simp; done) | (simp only [*]; done) | (rw [← E.cp_set, List.map_set] <;> first | rfl | omega; done) | fail)); done))
    | apply And.intro
    | omega
    | refine congrArg (List.map _) ?_
    | (rw [E.cp_len (by omega)]; done)
    | (rw [E.cp_zero, ← zeros]; rfl; done)
    | (have e : i = l.length := (by omega); subst e; rw [E.cp_full]; done)
    | (exact hb _ (E.at_mem (by omega)); done)
    | fail)
theorem toM_l (a : MLog) (hM : MLB a) : Fn Go.Proofs.Tryz.prog 28 [.a (eMLog false a)] [.a [.d, .d]] [.a (eMLog true (a))] := by
  refine E.Fn.ev (n := 12) mdL false mix Go.Proofs.Tryz.func28 rfl (by simp [Go.Proofs.Tryz.f28]) Go.Proofs.Tryz.ntmps28 (by simp) (by kernel_rfl) (rs := [.cell 2 40]) (tys := [40]) rfl rfl (by simp [finOK, A.ts, OWN, ownE, ownT]) (by simp [resOK, A.ts, OWN, ownE, ownT, DE]) ?_
  simp only [go_sem]
  repeat' (first
    | simp only [IJS]
    | (refine E.CALL.use (toCs_l _ ?_ ?_) ?_ <;> (try simp only [go_sem]))
    | apply And.intro
    | omega
    | (exact hM.len; done)
    | (exact hM.confs; done)
    | fail)
theorem toS_l (a : Srv) (hB : SrvB a) : Fn Go.Proofs.Tryz.prog 73 [.a (eSrv false a)] [.a [.d, .d, .d, .d, .d, .d, .d, .d, .d, .d, .d, .d]] [.a (eSrv true (a))] := by
  refine E.Fn.ev (n := 35) mdL false mix Go.Proofs.Tryz.func73 rfl (by simp [Go.Proofs.Tryz.f73]) Go.Proofs.Tryz.ntmps73 (by simp) (by kernel_rfl) (rs := [.cell 2 62]) (tys := [62]) rfl rfl (by simp [finOK, A.ts, OWN, ownE, ownT]) (by simp [resOK, A.ts, OWN, ownE, ownT, DE]) ?_
  simp only [go_sem]
  repeat' (first
    | simp only [IJS]
    | (refine E.CALL.use (toC_l _ ?_) ?_ <;> (try simp only [go_sem]))
    | (refine E.CALL.use (toE_l _ ?_) ?_ <;> (try simp only [go_sem]))
    | apply And.intro
    | omega
    | (exact SrvB.conf (by assumption); done)
    | (exact SrvB.log (by assumption); done)
    | (exact SrvB.learned (by assumption); done)
    | fail)
theorem toSs_l (l : List Srv) (hl : l.length ≤ 1048576) (hb : ∀ x ∈ l, SrvB x) : Fn Go.Proofs.Tryz.prog 26 [.c (.s false 12 (l.map (eSrv false)))] [.c .d] [.c (.s true 12 ((l).map (eSrv true)))] := by
  refine E.Fn.ev (n := 23) mdL false mix Go.Proofs.Tryz.func26 rfl (by simp [Go.Proofs.Tryz.f26]) Go.Proofs.Tryz.ntmps26 (by simp) (by kernel_rfl) (rs := [.tmp 2]) (tys := [37]) rfl rfl (by simp [finOK, A.ts, OWN, ownE, ownT]) (by simp [resOK, A.ts, OWN, ownE, ownT, DE]) ?_
  simp only [go_sem]
  repeat' (first
    | simp only [IJS]
    | (refine E.CALL.use (toS_l _ ?_) ?_ <;> (try simp only [go_sem]))
    | (refine E.GB.use (fun h => ?_) (fun h => ?_) <;> (simp only [go_sem, h]) <;> (try simp only [HFS] at h))
    | exact E.RK.mk (by kernel_rfl)
    | (refine E.IX_map ?_ (fun hx => ?_); rotate_left; simp only [go_sem])
    | (refine E.loopR (ι := Nat × Nat) 3 rfl (fun ⟨i, v⟩ => [(.s 4, .v (.c (.v (vi i)))), (.k (7, 0), .e ⟨v, 12, (E.cp l i (default : Srv)).map (eSrv true)⟩)]) [0, 2, 3, 22] [(7, 0)] [] (fun ⟨i, v⟩ => l.length - i) (fun ⟨i, v⟩ => i ≤ l.length ∧ (E.cp l i (default : Srv)).length = l.length) mix (by kernel_rfl) (0, 0) ?_ ?_ (fun ⟨i, v⟩ ⟨hi, hw⟩ => ?_); all_goals (try simp (maxSteps := 900000) only [go_sem]); all_goals (try dsimp only at hi hw))
    | (refine E.NEXT.use [] (i + 1, v + 1) ?_ ?_ ?_; rotate_left 2; focus (simp (maxSteps := 900000) only [go_sem]; (repeat' (first | with_reducible rfl | exact E.RK.mk (by kernel_rfl) | apply And.intro | (push_cast; with_reducible rfl) | (refine E.int_c ?_; omega) | (simp only [go_sem]; done) | (rw [List.map_append]; rfl) | (simp; done) | (simp only [*]; done) | (rw [← E.cp_set, List.map_set] <;> first | rfl | omega; done) | fail)); done))
    | apply And.intro
    | omega
    | refine congrArg (List.map _) ?_
    | (rw [E.cp_len (by omega)]; done)
    | (rw [E.cp_zero, ← zeros]; rfl; done)
    | (have e : i = l.length := (by omega); subst e; rw [E.cp_full]; done)
    | (exact hb _ (E.at_mem (by omega)); done)
    | fail)
theorem toU_l (a : Clu) (hB : CluB a) : Fn Go.Proofs.Tryz.prog 6 [.a (eClu false a)] [.a [.d, .d, .d, .d, .d, .d, .d, .d, .d, .d]] [.a (eClu true (a))] := by
  refine E.Fn.ev (n := 31) mdL false mix Go.Proofs.Tryz.func6 rfl (by simp [Go.Proofs.Tryz.f6]) Go.Proofs.Tryz.ntmps6 (by simp) (by kernel_rfl) (rs := [.cell 2 44]) (tys := [44]) rfl rfl (by simp [finOK, A.ts, OWN, ownE, ownT]) (by simp [resOK, A.ts, OWN, ownE, ownT, DE]) ?_
  simp only [go_sem]
  repeat' (first
    | simp only [IJS]
    | (refine E.CALL.use (toSs_l _ ?_ ?_) ?_ <;> (try simp only [go_sem]))
    | (refine E.CALL.use (toI_l _ ?_) ?_ <;> (try simp only [go_sem]))
    | (refine E.CALL.use (toM_l _ ?_) ?_ <;> (try simp only [go_sem]))
    | (refine E.CALL.use (toLse_l _) ?_ <;> (try simp only [go_sem]))
    | (refine E.CALL.use (toP_l _ ?_) ?_ <;> (try simp only [go_sem]))
    | apply And.intro
    | omega
    | (exact hB.srvs; done)
    | (exact CluB.m (by assumption); done)
    | (exact CluB.sd (by assumption); done)
    | (exact CluB.pl (by assumption); done)
    | (exact CluB.sl (by assumption); done)
    | fail)
end Go.Abs

/- Contracts of functions of the program, over the abstract machine, and facts for them. No condition. -/
import Derived.Test.YtandfgncjpgifaaGreatFacts
import Derived.Test.YtandfgncjpgifaaGreatPure17
import Derived.Test.YtandfgncjpgifaaGreatQ10
import Derived.Test.YtandfgncjpgifaaGreatQ16
import Derived.Test.YtandfgncjpgifaaGreatQ3
import Derived.Test.YtandfgncjpgifaaGreatQ6
import Derived.Test.YtandfgncjpgifaaGreatQ8
set_option linter.unusedVariables false
set_option linter.unusedSimpArgs false
set_option linter.unnecessarySimpa false
set_option linter.constructorNameAsVariable false
set_option maxHeartbeats 4000000
set_option maxRecDepth 100000
namespace Go.Abs
open Go
attribute [local go_sem ↓] E.argsA_h E.wq_ret E.wq_req E.wq_bad E.wq_call E.wq_get E.wq_getO E.wq_getOs E.wq_getPs E.wq_fresh E.wq_anyNil E.wq_getR0 E.wq_getR E.wq_ixM E.wq_n E.wq_g E.wq_gn E.ev_skip E.ev_region E.ev_draw E.ev_seq E.ev_cond E.ev_block E.ev_exit E.ev_ret E.sq_n E.sq_e E.sq_r E.bl_n E.bl_e E.bl_r E.lp_n E.lp_e E.lp_r E.fk_n E.fk_r E.q_move E.q_assign E.q_pick E.q_bin E.q_binw E.q_un E.q_alloc E.q_box E.q_build E.q_buildS E.q_makeS E.q_load E.q_store E.q_nilCheck E.q_slice E.q_fieldAddr E.q_field E.q_indexAddr E.q_extract E.q_makeFunc E.q_call E.q_callT E.q_len E.q_append E.q_min E.q_max E.q_convert E.q_cap E.q_clear appendIM appendZM E.b_add E.b_sub E.b_mul E.b_eql E.b_neq E.b_lss E.b_leq E.b_gtr E.b_geq E.GO_tmp E.GO_int E.GO_bool E.GO_str E.GO_nil E.GO_func E.GOs_nil E.GOs_cons E.GPs_nil E.GPs_cons E.RW_nil E.RW_cons E.dstAt_0 E.dstAt_s E.keepL_nil E.keepL_s E.keepL_k E.rmN_nil E.rmN_cons E.memN_nil E.memN_cons E.memK_nil E.memK_cons E.ovl_nil E.ovl_kk E.ovl_sk E.ovl_ks E.ovl_ss ofL_s ofL_sk ofL_ks ofL_k ofL_nil E.CO_tmp E.CO_bool
attribute [local go_sem] E.RM_nil E.RM_cons E.kd_k E.sbr_eq E.s3_nil E.s3_s E.s3_k E.vr_c E.vr_a E.vr_p E.vr_q E.vr_t E.vr_f E.vr_u E.cr_r E.cr_v E.cr_b E.cr_n E.cr_u E.crs_nil E.crs_cons E.renK_nil E.renK_cons keysVs V.keys C.keys keysCs E.RG_nil E.RG_cons E.GV_v E.GB_true E.GB_false E.GX_b E.GG_t E.GG_f E.GG_u E.GU_some E.IX_0 E.IX_s E.CX_s E.FR_none E.EN_e E.GVB_b E.b_boolM E.b_nilM E.b_strM E.b_aggM
attribute [local go_sem] List.cons_append List.nil_append List.append_nil List.length_cons List.length_nil List.length_map List.length_append callM E.argsH_nil E.argsH_cons E.argH_c E.argH_a E.argH_f E.cellsH_nil E.cellsH_cons E.cellH_v E.cellH_b E.cellH_n E.cellH_nt E.cellH_u E.cellH_rt E.cellH_rf capsA capA callable backs backT resVs resV resC tupV lenV intV boolV getE getO entryL entryKs A.ts entryV entryC entryCs entryCap List.map_cons List.map_nil E.cut_n E.cut_r E.cutM plainL A.capOK szEs szE szT SZ whole toB toC List.drop_zero List.take_zero List.take_succ_cons List.drop_succ_cons resultsM resultM outM outM1 convs conv finAs finA finT finTs Int.toNat_natCast A.plain T.plain List.isEmpty_nil List.isEmpty_cons Bool.or_true Bool.true_or Bool.and_self List.getElem?_cons_zero List.getElem?_cons_succ Option.bind_some Option.bind_none Option.bind Nat.zero_add Nat.add_zero OWN BOR ONE SCAL DE ETA E.take_rest Int.toNat_zero E.take_map E.drop_map E.take_len1 List.take_length E.app_map Int.natCast_zero Int.sub_zero Int.toNat_sub partCells V.cells convsL appendM srcM E.scalEs_nil E.scalEs_cons E.oneEs_nil E.oneEs_cons List.all_cons List.all_nil T.one Bool.and_true gone ownEs ownE ownT borEs borE borT setRow splice List.set_cons_zero List.set_cons_succ optI getOpt sliceM ptrTo app_ofL T.isV Value.oneCell' fillC zeroC spliceC allV eqVs eqV minV maxV setAt setCell holed List.dropLast List.getLast?_singleton Option.getD_some Option.isSome_some Option.isSome_none Bool.and_false Bool.true_and Bool.false_and Option.map_some Option.map_none false_or true_or or_true rowAt cellAt E.constV_nil E.constV_int E.constV_bool E.constV_str E.setCell_set E.setCell_len setRow setAt List.dropLast_cons_cons List.dropLast_singleton List.getLast?_cons_cons
attribute [local go_sem_proc ↓] reduceIte
attribute [local go_sem_proc] Nat.reduceEqDiff reduceCtorEq Nat.reduceAdd Nat.reduceMul
attribute [local irreducible] E.argsH E.argH E.cellsH E.cellH E.GV E.GB E.GX E.GG E.GU E.IX E.CX E.RW E.FR E.EN E.CALL E.GO E.GOs E.GPs E.GVB E.KD E.RM E.RG E.CO E.WQ E.EV E.SQ E.BL E.LP E.FK E.S3 E.RK E.NEXT E.NQ E.INDEP
section
attribute [local go_sem] mdG_eq mdM toNat_pred setI List.length_set mdL_eq E.b_rem
theorem toOp_l (a : ROp) : Fn Go.Proofs.Tryz.prog 240 [.a (eROp a)] [.a [.d, .d, .d, .d, .d, .d]] [.a (eROp (a))] := by
  refine E.Fn.ev (n := 23) mdL false mix Go.Proofs.Tryz.func240 rfl (by simp [Go.Proofs.Tryz.f240]) Go.Proofs.Tryz.ntmps240 (by simp) (by kernel_rfl) (rs := [.cell 2 125]) (tys := [125]) rfl rfl (by simp [finOK, A.ts, OWN, ownE, ownT]) (by simp [resOK, A.ts, OWN, ownE, ownT, DE]) ?_
  simp only [go_sem]
  repeat' (first
    | simp only [IJS]
    | apply And.intro
    | omega
    | fail)
theorem toEnt_l (a : LEnt) : Fn Go.Proofs.Tryz.prog 230 [.a (eLEnt a)] [.a [.d, .d, .d, .d, .d, .d, .d]] [.a (eLEnt (a))] := by
  refine E.Fn.ev (n := 12) mdL false mix Go.Proofs.Tryz.func230 rfl (by simp [Go.Proofs.Tryz.f230]) Go.Proofs.Tryz.ntmps230 (by simp) (by kernel_rfl) (rs := [.cell 2 127]) (tys := [127]) rfl rfl (by simp [finOK, A.ts, OWN, ownE, ownT]) (by simp [resOK, A.ts, OWN, ownE, ownT, DE]) ?_
  simp only [go_sem]
  repeat' (first
    | simp only [IJS]
    | (refine E.CALL.use (toOp_l _) ?_ <;> (try simp only [go_sem]))
    | apply And.intro
    | omega
    | fail)
theorem toPlc_l (a : Plc) : Fn Go.Proofs.Tryz.prog 130 [.a (ePlc a)] [.a [.d, .d, .d]] [.a (ePlc (a))] := by
  refine E.Fn.ev (n := 14) mdL false mix Go.Proofs.Tryz.func130 rfl (by simp [Go.Proofs.Tryz.f130]) Go.Proofs.Tryz.ntmps130 (by simp) (by kernel_rfl) (rs := [.cell 2 132]) (tys := [132]) rfl rfl (by simp [finOK, A.ts, OWN, ownE, ownT]) (by simp [resOK, A.ts, OWN, ownE, ownT, DE]) ?_
  simp only [go_sem]
  repeat' (first
    | simp only [IJS]
    | apply And.intro
    | omega
    | fail)
theorem toLse_l (a : Lse) : Fn Go.Proofs.Tryz.prog 43 [.a (eLse a)] [.a [.d, .d, .d]] [.a (eLse (a))] := by
  refine E.Fn.ev (n := 14) mdL false mix Go.Proofs.Tryz.func43 rfl (by simp [Go.Proofs.Tryz.f43]) Go.Proofs.Tryz.ntmps43 (by simp) (by kernel_rfl) (rs := [.cell 2 37]) (tys := [37]) rfl rfl (by simp [finOK, A.ts, OWN, ownE, ownT]) (by simp [resOK, A.ts, OWN, ownE, ownT, DE]) ?_
  simp only [go_sem]
  repeat' (first
    | simp only [IJS]
    | apply And.intro
    | omega
    | fail)
theorem toI_l (l : List Int) (hl : l.length ≤ 1048576) : Fn Go.Proofs.Tryz.prog 41 [.c (.s false 1 (l.map eInt))] [.c .d] [.c (.s true 1 ((l).map eInt))] := by
  refine E.Fn.ev (n := 22) mdL false mix Go.Proofs.Tryz.func41 rfl (by simp [Go.Proofs.Tryz.f41]) Go.Proofs.Tryz.ntmps41 (by simp) (by kernel_rfl) (rs := [.tmp 2]) (tys := [23]) rfl rfl (by simp [finOK, A.ts, OWN, ownE, ownT]) (by simp [resOK, A.ts, OWN, ownE, ownT, DE]) ?_
  simp only [go_sem]
  repeat' (first
    | simp only [IJS]
    | (refine E.GB.use (fun h => ?_) (fun h => ?_) <;> (simp only [go_sem, h]) <;> (try simp only [HFS] at h))
    | exact E.RK.mk (by kernel_rfl)
    | (refine E.IX_map ?_ (fun hx => ?_); rotate_left; simp only [go_sem])
    | (refine E.loopR (ι := Nat) 3 rfl (fun i => [(.s 4, .v (.c (.v (vi i)))), (.k (7, 0), .e ⟨0, 1, (E.cp l i (0 : Int)).map eInt⟩)]) [0, 2, 3, 21] [(7, 0)] [] (fun i => l.length - i) (fun i => i ≤ l.length ∧ (E.cp l i (0 : Int)).length = l.length) mix (by kernel_rfl) 0 ?_ ?_ (fun i ⟨hi, hw⟩ => ?_); all_goals (try simp (maxSteps := 900000) only [go_sem]); all_goals (try dsimp only at hi hw))
    | (refine E.NEXT.use [] (i + 1) ?_ ?_ ?_; rotate_left 2; focus (simp (maxSteps := 900000) only [go_sem]; (repeat' (first | with_reducible rfl | exact E.RK.mk (by kernel_rfl) | apply And.intro | (push_cast; with_reducible rfl) | (refine E.int_c ?_; omega) | (simp only [go_sem]; done) | (rw [List.map_append]; rfl) | (simp; done) | (simp only [*]; done) | (rw [← E.cp_set, List.map_set] <;> first | rfl | omega; done) | fail)); done))
    | apply And.intro
    | omega
    | refine congrArg (List.map _) ?_
    | (rw [E.cp_len (by omega)]; done)
    | (rw [E.cp_zero, ← zeros]; rfl; done)
    | (have e : i = l.length := (by omega); subst e; rw [E.cp_full]; done)
    | fail)
theorem toE_l (l : List LEnt) (hl : l.length ≤ 1048576) : Fn Go.Proofs.Tryz.prog 199 [.c (.s false 7 (l.map eLEnt))] [.c .d] [.c (.s true 7 ((l).map eLEnt))] := by
  refine E.Fn.ev (n := 23) mdL false mix Go.Proofs.Tryz.func199 rfl (by simp [Go.Proofs.Tryz.f199]) Go.Proofs.Tryz.ntmps199 (by simp) (by kernel_rfl) (rs := [.tmp 2]) (tys := [64]) rfl rfl (by simp [finOK, A.ts, OWN, ownE, ownT]) (by simp [resOK, A.ts, OWN, ownE, ownT, DE]) ?_
  simp only [go_sem]
  repeat' (first
    | simp only [IJS]
    | (refine E.CALL.use (toEnt_l _) ?_ <;> (try simp only [go_sem]))
    | (refine E.GB.use (fun h => ?_) (fun h => ?_) <;> (simp only [go_sem, h]) <;> (try simp only [HFS] at h))
    | exact E.RK.mk (by kernel_rfl)
    | (refine E.IX_map ?_ (fun hx => ?_); rotate_left; simp only [go_sem])
    | (refine E.loopR (ι := Nat) 3 rfl (fun i => [(.s 4, .v (.c (.v (vi i)))), (.k (7, 0), .e ⟨0, 7, (E.cp l i (default : LEnt)).map eLEnt⟩)]) [0, 2, 3, 22] [(7, 0)] [] (fun i => l.length - i) (fun i => i ≤ l.length ∧ (E.cp l i (default : LEnt)).length = l.length) mix (by kernel_rfl) 0 ?_ ?_ (fun i ⟨hi, hw⟩ => ?_); all_goals (try simp (maxSteps := 900000) only [go_sem]); all_goals (try dsimp only at hi hw))
    | (refine E.NEXT.use [] (i + 1) ?_ ?_ ?_; rotate_left 2; focus (simp (maxSteps := 900000) only [go_sem]; (repeat' (first | with_reducible rfl | exact E.RK.mk (by kernel_rfl) | apply And.intro | (push_cast; with_reducible rfl) | (refine E.int_c ?_; omega) | (simp only [go_sem]; done) | (rw [List.map_append]; rfl) | (simp; done) | (simp only [*]; done) | (rw [← E.cp_set, List.map_set] <;> first | rfl | omega; done) | fail)); done))
    | apply And.intro
    | omega
    | refine congrArg (List.map _) ?_
    | (rw [E.cp_len (by omega)]; done)
    | (rw [E.cp_zero, ← zeros]; rfl; done)
    | (have e : i = l.length := (by omega); subst e; rw [E.cp_full]; done)
    | fail)
theorem toP_l (l : List Plc) (hl : l.length ≤ 1048576) : Fn Go.Proofs.Tryz.prog 44 [.c (.s false 3 (l.map ePlc))] [.c .d] [.c (.s true 3 ((l).map ePlc))] := by
  refine E.Fn.ev (n := 23) mdL false mix Go.Proofs.Tryz.func44 rfl (by simp [Go.Proofs.Tryz.f44]) Go.Proofs.Tryz.ntmps44 (by simp) (by kernel_rfl) (rs := [.tmp 2]) (tys := [38]) rfl rfl (by simp [finOK, A.ts, OWN, ownE, ownT]) (by simp [resOK, A.ts, OWN, ownE, ownT, DE]) ?_
  simp only [go_sem]
  repeat' (first
    | simp only [IJS]
    | (refine E.CALL.use (toPlc_l _) ?_ <;> (try simp only [go_sem]))
    | (refine E.GB.use (fun h => ?_) (fun h => ?_) <;> (simp only [go_sem, h]) <;> (try simp only [HFS] at h))
    | exact E.RK.mk (by kernel_rfl)
    | (refine E.IX_map ?_ (fun hx => ?_); rotate_left; simp only [go_sem])
    | (refine E.loopR (ι := Nat) 3 rfl (fun i => [(.s 4, .v (.c (.v (vi i)))), (.k (7, 0), .e ⟨0, 3, (E.cp l i (default : Plc)).map ePlc⟩)]) [0, 2, 3, 22] [(7, 0)] [] (fun i => l.length - i) (fun i => i ≤ l.length ∧ (E.cp l i (default : Plc)).length = l.length) mix (by kernel_rfl) 0 ?_ ?_ (fun i ⟨hi, hw⟩ => ?_); all_goals (try simp (maxSteps := 900000) only [go_sem]); all_goals (try dsimp only at hi hw))
    | (refine E.NEXT.use [] (i + 1) ?_ ?_ ?_; rotate_left 2; focus (simp (maxSteps := 900000) only [go_sem]; (repeat' (first | with_reducible rfl | exact E.RK.mk (by kernel_rfl) | apply And.intro | (push_cast; with_reducible rfl) | (refine E.int_c ?_; omega) | (simp only [go_sem]; done) | (rw [List.map_append]; rfl) | (simp; done) | (simp only [*]; done) | (rw [← E.cp_set, List.map_set] <;> first | rfl | omega; done) | fail)); done))
    | apply And.intro
    | omega
    | refine congrArg (List.map _) ?_
    | (rw [E.cp_len (by omega)]; done)
    | (rw [E.cp_zero, ← zeros]; rfl; done)
    | (have e : i = l.length := (by omega); subst e; rw [E.cp_full]; done)
    | fail)
theorem toC_l (a : Conf) (hB : ConfB a) : Fn Go.Proofs.Tryz.prog 198 [.a (eConf false a)] [.a [.d, .d, .d, .d]] [.a (eConf true (a))] := by
  refine E.Fn.ev (n := 19) mdL false mix Go.Proofs.Tryz.func198 rfl (by simp [Go.Proofs.Tryz.f198]) Go.Proofs.Tryz.ntmps198 (by simp) (by kernel_rfl) (rs := [.cell 2 60]) (tys := [60]) rfl rfl (by simp [finOK, A.ts, OWN, ownE, ownT]) (by simp [resOK, A.ts, OWN, ownE, ownT, DE]) ?_
  simp only [go_sem]
  repeat' (first
    | simp only [IJS]
    | (refine E.CALL.use (toI_l _ ?_) ?_ <;> (try simp only [go_sem]))
    | apply And.intro
    | omega
    | (exact ConfB.r (by assumption); done)
    | (exact ConfB.w (by assumption); done)
    | fail)
theorem toCs_l (l : List Conf) (hl : l.length ≤ 1048576) (hb : ∀ x ∈ l, ConfB x) : Fn Go.Proofs.Tryz.prog 129 [.c (.s false 4 (l.map (eConf false)))] [.c .d] [.c (.s true 4 ((l).map (eConf true)))] := by
  refine E.Fn.ev (n := 23) mdL false mix Go.Proofs.Tryz.func129 rfl (by simp [Go.Proofs.Tryz.f129]) Go.Proofs.Tryz.ntmps129 (by simp) (by kernel_rfl) (rs := [.tmp 2]) (tys := [34]) rfl rfl (by simp [finOK, A.ts, OWN, ownE, ownT]) (by simp [resOK, A.ts, OWN, ownE, ownT, DE]) ?_
  simp only [go_sem]
  repeat' (first
    | simp only [IJS]
    | (refine E.CALL.use (toC_l _ ?_) ?_ <;> (try simp only [go_sem]))
    | (refine E.GB.use (fun h => ?_) (fun h => ?_) <;> (simp only [go_sem, h]) <;> (try simp only [HFS] at h))
    | exact E.RK.mk (by kernel_rfl)
    | (refine E.IX_map ?_ (fun hx => ?_); rotate_left; simp only [go_sem])
    | (refine E.loopR (ι := Nat × Nat) 3 rfl (fun ⟨i, v⟩ => [(.s 4, .v (.c (.v (vi i)))), (.k (7, 0), .e ⟨v, 4, (E.cp l i (default : Conf)).map (eConf true)⟩)]) [0, 2, 3, 22] [(7, 0)] [] (fun ⟨i, v⟩ => l.length - i) (fun ⟨i, v⟩ => i ≤ l.length ∧ (E.cp l i (default : Conf)).length = l.length) mix (by kernel_rfl) (0, 0) ?_ ?_ (fun ⟨i, v⟩ ⟨hi, hw⟩ => ?_); all_goals (try simp (maxSteps := 900000) only [go_sem]); all_goals (try dsimp only at hi hw))
    | (refine E.NEXT.use [] (i + 1, v + 1) ?_ ?_ ?_; rotate_left 2; focus (simp (maxSteps := 900000) only [go_sem]; (repeat' (first | with_reducible rfl | exact E.RK.mk (by kernel_rfl) | apply And.intro | (push_cast; with_reducible rfl) | (refine E.int_c ?_; omega) | (simp only [go_sem]; done) | (rw [List.map_append]; rfl) | (simp; done) | (simp only [*]; done) | (rw [← E.cp_set, List.map_set] <;> first | rfl | omega; done) | fail)); done))
    | apply And.intro
    | omega
    | refine congrArg (List.map _) ?_
    | (rw [E.cp_len (by omega)]; done)
    | (rw [E.cp_zero, ← zeros]; rfl; done)
    | (have e : i = l.length := (by omega); subst e; rw [E.cp_full]; done)
    | (exact hb _ (E.at_mem (by omega)); done)
    | fail)
theorem toM_l (a : MLog) (hM : MLB a) : Fn Go.Proofs.Tryz.prog 42 [.a (eMLog false a)] [.a [.d, .d]] [.a (eMLog true (a))] := by
  refine E.Fn.ev (n := 12) mdL false mix Go.Proofs.Tryz.func42 rfl (by simp [Go.Proofs.Tryz.f42]) Go.Proofs.Tryz.ntmps42 (by simp) (by kernel_rfl) (rs := [.cell 2 36]) (tys := [36]) rfl rfl (by simp [finOK, A.ts, OWN, ownE, ownT]) (by simp [resOK, A.ts, OWN, ownE, ownT, DE]) ?_
  simp only [go_sem]
  repeat' (first
    | simp only [IJS]
    | (refine E.CALL.use (toCs_l _ ?_ ?_) ?_ <;> (try simp only [go_sem]))
    | apply And.intro
    | omega
    | (exact hM.len; done)
    | (exact hM.confs; done)
    | fail)
theorem toS_l (a : Srv) (hB : SrvB a) : Fn Go.Proofs.Tryz.prog 128 [.a (eSrv false a)] [.a [.d, .d, .d, .d, .d, .d, .d, .d, .d, .d, .d, .d]] [.a (eSrv true (a))] := by
  refine E.Fn.ev (n := 35) mdL false mix Go.Proofs.Tryz.func128 rfl (by simp [Go.Proofs.Tryz.f128]) Go.Proofs.Tryz.ntmps128 (by simp) (by kernel_rfl) (rs := [.cell 2 66]) (tys := [66]) rfl rfl (by simp [finOK, A.ts, OWN, ownE, ownT]) (by simp [resOK, A.ts, OWN, ownE, ownT, DE]) ?_
  simp only [go_sem]
  repeat' (first
    | simp only [IJS]
    | (refine E.CALL.use (toC_l _ ?_) ?_ <;> (try simp only [go_sem]))
    | (refine E.CALL.use (toE_l _ ?_) ?_ <;> (try simp only [go_sem]))
    | apply And.intro
    | omega
    | (exact SrvB.conf (by assumption); done)
    | (exact SrvB.log (by assumption); done)
    | (exact SrvB.learned (by assumption); done)
    | fail)
theorem toSs_l (l : List Srv) (hl : l.length ≤ 1048576) (hb : ∀ x ∈ l, SrvB x) : Fn Go.Proofs.Tryz.prog 40 [.c (.s false 12 (l.map (eSrv false)))] [.c .d] [.c (.s true 12 ((l).map (eSrv true)))] := by
  refine E.Fn.ev (n := 23) mdL false mix Go.Proofs.Tryz.func40 rfl (by simp [Go.Proofs.Tryz.f40]) Go.Proofs.Tryz.ntmps40 (by simp) (by kernel_rfl) (rs := [.tmp 2]) (tys := [33]) rfl rfl (by simp [finOK, A.ts, OWN, ownE, ownT]) (by simp [resOK, A.ts, OWN, ownE, ownT, DE]) ?_
  simp only [go_sem]
  repeat' (first
    | simp only [IJS]
    | (refine E.CALL.use (toS_l _ ?_) ?_ <;> (try simp only [go_sem]))
    | (refine E.GB.use (fun h => ?_) (fun h => ?_) <;> (simp only [go_sem, h]) <;> (try simp only [HFS] at h))
    | exact E.RK.mk (by kernel_rfl)
    | (refine E.IX_map ?_ (fun hx => ?_); rotate_left; simp only [go_sem])
    | (refine E.loopR (ι := Nat × Nat) 3 rfl (fun ⟨i, v⟩ => [(.s 4, .v (.c (.v (vi i)))), (.k (7, 0), .e ⟨v, 12, (E.cp l i (default : Srv)).map (eSrv true)⟩)]) [0, 2, 3, 22] [(7, 0)] [] (fun ⟨i, v⟩ => l.length - i) (fun ⟨i, v⟩ => i ≤ l.length ∧ (E.cp l i (default : Srv)).length = l.length) mix (by kernel_rfl) (0, 0) ?_ ?_ (fun ⟨i, v⟩ ⟨hi, hw⟩ => ?_); all_goals (try simp (maxSteps := 900000) only [go_sem]); all_goals (try dsimp only at hi hw))
    | (refine E.NEXT.use [] (i + 1, v + 1) ?_ ?_ ?_; rotate_left 2; focus (simp (maxSteps := 900000) only [go_sem]; (repeat' (first | with_reducible rfl | exact E.RK.mk (by kernel_rfl) | apply And.intro | (push_cast; with_reducible rfl) | (refine E.int_c ?_; omega) | (simp only [go_sem]; done) | (rw [List.map_append]; rfl) | (simp; done) | (simp only [*]; done) | (rw [← E.cp_set, List.map_set] <;> first | rfl | omega; done) | fail)); done))
    | apply And.intro
    | omega
    | refine congrArg (List.map _) ?_
    | (rw [E.cp_len (by omega)]; done)
    | (rw [E.cp_zero, ← zeros]; rfl; done)
    | (have e : i = l.length := (by omega); subst e; rw [E.cp_full]; done)
    | (exact hb _ (E.at_mem (by omega)); done)
    | fail)
theorem toU_l (a : Clu) (hB : CluB a) : Fn Go.Proofs.Tryz.prog 11 [.a (eClu false a)] [.a [.d, .d, .d, .d, .d, .d, .d, .d, .d, .d]] [.a (eClu true (a))] := by
  refine E.Fn.ev (n := 31) mdL false mix Go.Proofs.Tryz.func11 rfl (by simp [Go.Proofs.Tryz.f11]) Go.Proofs.Tryz.ntmps11 (by simp) (by kernel_rfl) (rs := [.cell 2 40]) (tys := [40]) rfl rfl (by simp [finOK, A.ts, OWN, ownE, ownT]) (by simp [resOK, A.ts, OWN, ownE, ownT, DE]) ?_
  simp only [go_sem]
  repeat' (first
    | simp only [IJS]
    | (refine E.CALL.use (toSs_l _ ?_ ?_) ?_ <;> (try simp only [go_sem]))
    | (refine E.CALL.use (toI_l _ ?_) ?_ <;> (try simp only [go_sem]))
    | (refine E.CALL.use (toM_l _ ?_) ?_ <;> (try simp only [go_sem]))
    | (refine E.CALL.use (toLse_l _) ?_ <;> (try simp only [go_sem]))
    | (refine E.CALL.use (toP_l _ ?_) ?_ <;> (try simp only [go_sem]))
    | apply And.intro
    | omega
    | (exact hB.srvs; done)
    | (exact CluB.m (by assumption); done)
    | (exact CluB.sd (by assumption); done)
    | (exact CluB.pl (by assumption); done)
    | (exact CluB.sl (by assumption); done)
    | fail)
end
section
attribute [local go_sem] mdG_eq mdM toNat_pred setI List.length_set eLI_eq eLE_eq
theorem renew_i (c : Clu) (id : Int) (term : Int) (hB : CluB c) : Fn Go.Proofs.Tryz.prog 86 [.a (eClu false c), .c (.v (vi id)), .c (.v (vi term))] [.a [.d, .d, .d, .d, .d, .d, .d, .d, .d, .d], .c .d, .c .d] [.a (eClu true ((renew c id term).1)), .c (.v (vi ((renew c id term).2)))] := by
  refine E.Fn.ev (n := 78) mdG false mix Go.Proofs.Tryz.func86 rfl (by simp [Go.Proofs.Tryz.f86]) Go.Proofs.Tryz.ntmps86 (by simp) (by kernel_rfl) (rs := [.cell 6 40, .tmp 7]) (tys := [40, 3]) rfl rfl (by simp [finOK, A.ts, OWN, ownE, ownT]) (by simp [resOK, A.ts, OWN, ownE, ownT, DE]) ?_
  simp only [go_sem]
  repeat' (first
    | simp only [IJS]
    | (refine E.CALL.use (copyU_i_B _ ?_) ?_ <;> (try simp only [go_sem]))
    | (refine E.CALL.use (upCode_i _ _ ?_) ?_ <;> (try simp only [go_sem]))
    | (refine E.CALL.use (primAt_i _ _ ?_) ?_ <;> (try simp only [go_sem]))
    | (refine E.CALL.use (mw_i _ ?_) ?_ <;> (try simp only [go_sem]))
    | (refine E.CALL.use (grant_i _ _ _ _ _) ?_ <;> (try simp only [go_sem]))
    | (refine E.GB.use (fun h => ?_) (fun h => ?_) <;> (simp only [go_sem, h]) <;> (try simp only [HFS] at h))
    | exact E.INDEP.mk2 (by kernel_rfl)
    | (refine E.IX_map ?_ (fun hx => ?_); rotate_left; simp only [go_sem])
    | apply And.intro
    | omega
    | refine congrArg (List.map _) ?_
    | (have q := upCode_0 (c := c) (id := id) (by assumption); have q2 := hasSrv_of q.1; omega; done)
    | (exact (hasSrv_of (upCode_0 (c := c) (id := id) (by assumption)).1).1; done)
    | (simp only [renew_1 (by (first | assumption | (simp only [masters_iff]; simp only [decide_eq_true_eq, decide_eq_false_iff_not]; omega) | (rw [primAt_0 (by assumption)]; assumption) | (left; simp only [masters_iff]; simp only [decide_eq_true_eq, decide_eq_false_iff_not]; omega) | (left; assumption) | (right; assumption) | omega | (simp only [Bool.not_eq_true, Bool.not_eq_false] at *; assumption))), setLease, setMast, setLog, setCommit, setTail, setSrv, srvAt]; done)
    | (simp only [renew_2 (by (first | assumption | (simp only [masters_iff]; simp only [decide_eq_true_eq, decide_eq_false_iff_not]; omega) | (rw [primAt_0 (by assumption)]; assumption) | (left; simp only [masters_iff]; simp only [decide_eq_true_eq, decide_eq_false_iff_not]; omega) | (left; assumption) | (right; assumption) | omega | (simp only [Bool.not_eq_true, Bool.not_eq_false] at *; assumption))) (by (first | assumption | (simp only [masters_iff]; simp only [decide_eq_true_eq, decide_eq_false_iff_not]; omega) | (rw [primAt_0 (by assumption)]; assumption) | (left; simp only [masters_iff]; simp only [decide_eq_true_eq, decide_eq_false_iff_not]; omega) | (left; assumption) | (right; assumption) | omega | (simp only [Bool.not_eq_true, Bool.not_eq_false] at *; assumption))), setLease, setMast, setLog, setCommit, setTail, setSrv, srvAt]; done)
    | (simp only [renew_3 (by (first | assumption | (simp only [masters_iff]; simp only [decide_eq_true_eq, decide_eq_false_iff_not]; omega) | (rw [primAt_0 (by assumption)]; assumption) | (left; simp only [masters_iff]; simp only [decide_eq_true_eq, decide_eq_false_iff_not]; omega) | (left; assumption) | (right; assumption) | omega | (simp only [Bool.not_eq_true, Bool.not_eq_false] at *; assumption))) (by (first | assumption | (simp only [masters_iff]; simp only [decide_eq_true_eq, decide_eq_false_iff_not]; omega) | (rw [primAt_0 (by assumption)]; assumption) | (left; simp only [masters_iff]; simp only [decide_eq_true_eq, decide_eq_false_iff_not]; omega) | (left; assumption) | (right; assumption) | omega | (simp only [Bool.not_eq_true, Bool.not_eq_false] at *; assumption))) (by (first | assumption | (simp only [masters_iff]; simp only [decide_eq_true_eq, decide_eq_false_iff_not]; omega) | (rw [primAt_0 (by assumption)]; assumption) | (left; simp only [masters_iff]; simp only [decide_eq_true_eq, decide_eq_false_iff_not]; omega) | (left; assumption) | (right; assumption) | omega | (simp only [Bool.not_eq_true, Bool.not_eq_false] at *; assumption))), setLease, setMast, setLog, setCommit, setTail, setSrv, srvAt]; done)
    | (simp only [renew_4 (by (first | assumption | (simp only [masters_iff]; simp only [decide_eq_true_eq, decide_eq_false_iff_not]; omega) | (rw [primAt_0 (by assumption)]; assumption) | (left; simp only [masters_iff]; simp only [decide_eq_true_eq, decide_eq_false_iff_not]; omega) | (left; assumption) | (right; assumption) | omega | (simp only [Bool.not_eq_true, Bool.not_eq_false] at *; assumption))) (by (first | assumption | (simp only [masters_iff]; simp only [decide_eq_true_eq, decide_eq_false_iff_not]; omega) | (rw [primAt_0 (by assumption)]; assumption) | (left; simp only [masters_iff]; simp only [decide_eq_true_eq, decide_eq_false_iff_not]; omega) | (left; assumption) | (right; assumption) | omega | (simp only [Bool.not_eq_true, Bool.not_eq_false] at *; assumption))) (by (first | assumption | (simp only [masters_iff]; simp only [decide_eq_true_eq, decide_eq_false_iff_not]; omega) | (rw [primAt_0 (by assumption)]; assumption) | (left; simp only [masters_iff]; simp only [decide_eq_true_eq, decide_eq_false_iff_not]; omega) | (left; assumption) | (right; assumption) | omega | (simp only [Bool.not_eq_true, Bool.not_eq_false] at *; assumption))) (by (first | assumption | (simp only [masters_iff]; simp only [decide_eq_true_eq, decide_eq_false_iff_not]; omega) | (rw [primAt_0 (by assumption)]; assumption) | (left; simp only [masters_iff]; simp only [decide_eq_true_eq, decide_eq_false_iff_not]; omega) | (left; assumption) | (right; assumption) | omega | (simp only [Bool.not_eq_true, Bool.not_eq_false] at *; assumption))) (by (first | assumption | (simp only [masters_iff]; simp only [decide_eq_true_eq, decide_eq_false_iff_not]; omega) | (rw [primAt_0 (by assumption)]; assumption) | (left; simp only [masters_iff]; simp only [decide_eq_true_eq, decide_eq_false_iff_not]; omega) | (left; assumption) | (right; assumption) | omega | (simp only [Bool.not_eq_true, Bool.not_eq_false] at *; assumption))), setLease, setMast, setLog, setCommit, setTail, setSrv, srvAt]; done)
    | (simp only [renew_5 (by (first | assumption | (simp only [masters_iff]; simp only [decide_eq_true_eq, decide_eq_false_iff_not]; omega) | (rw [primAt_0 (by assumption)]; assumption) | (left; simp only [masters_iff]; simp only [decide_eq_true_eq, decide_eq_false_iff_not]; omega) | (left; assumption) | (right; assumption) | omega | (simp only [Bool.not_eq_true, Bool.not_eq_false] at *; assumption))) (by (first | assumption | (simp only [masters_iff]; simp only [decide_eq_true_eq, decide_eq_false_iff_not]; omega) | (rw [primAt_0 (by assumption)]; assumption) | (left; simp only [masters_iff]; simp only [decide_eq_true_eq, decide_eq_false_iff_not]; omega) | (left; assumption) | (right; assumption) | omega | (simp only [Bool.not_eq_true, Bool.not_eq_false] at *; assumption))) (by (first | assumption | (simp only [masters_iff]; simp only [decide_eq_true_eq, decide_eq_false_iff_not]; omega) | (rw [primAt_0 (by assumption)]; assumption) | (left; simp only [masters_iff]; simp only [decide_eq_true_eq, decide_eq_false_iff_not]; omega) | (left; assumption) | (right; assumption) | omega | (simp only [Bool.not_eq_true, Bool.not_eq_false] at *; assumption))) (by (first | assumption | (simp only [masters_iff]; simp only [decide_eq_true_eq, decide_eq_false_iff_not]; omega) | (rw [primAt_0 (by assumption)]; assumption) | (left; simp only [masters_iff]; simp only [decide_eq_true_eq, decide_eq_false_iff_not]; omega) | (left; assumption) | (right; assumption) | omega | (simp only [Bool.not_eq_true, Bool.not_eq_false] at *; assumption))) (by (first | assumption | (simp only [masters_iff]; simp only [decide_eq_true_eq, decide_eq_false_iff_not]; omega) | (rw [primAt_0 (by assumption)]; assumption) | (left; simp only [masters_iff]; simp only [decide_eq_true_eq, decide_eq_false_iff_not]; omega) | (left; assumption) | (right; assumption) | omega | (simp only [Bool.not_eq_true, Bool.not_eq_false] at *; assumption))) (by (first | assumption | (simp only [masters_iff]; simp only [decide_eq_true_eq, decide_eq_false_iff_not]; omega) | (rw [primAt_0 (by assumption)]; assumption) | (left; simp only [masters_iff]; simp only [decide_eq_true_eq, decide_eq_false_iff_not]; omega) | (left; assumption) | (right; assumption) | omega | (simp only [Bool.not_eq_true, Bool.not_eq_false] at *; assumption))), setLease, setMast, setLog, setCommit, setTail, setSrv, srvAt]; done)
    | (simp only [renew_6 (by (first | assumption | (simp only [masters_iff]; simp only [decide_eq_true_eq, decide_eq_false_iff_not]; omega) | (rw [primAt_0 (by assumption)]; assumption) | (left; simp only [masters_iff]; simp only [decide_eq_true_eq, decide_eq_false_iff_not]; omega) | (left; assumption) | (right; assumption) | omega | (simp only [Bool.not_eq_true, Bool.not_eq_false] at *; assumption))) (by (first | assumption | (simp only [masters_iff]; simp only [decide_eq_true_eq, decide_eq_false_iff_not]; omega) | (rw [primAt_0 (by assumption)]; assumption) | (left; simp only [masters_iff]; simp only [decide_eq_true_eq, decide_eq_false_iff_not]; omega) | (left; assumption) | (right; assumption) | omega | (simp only [Bool.not_eq_true, Bool.not_eq_false] at *; assumption))) (by (first | assumption | (simp only [masters_iff]; simp only [decide_eq_true_eq, decide_eq_false_iff_not]; omega) | (rw [primAt_0 (by assumption)]; assumption) | (left; simp only [masters_iff]; simp only [decide_eq_true_eq, decide_eq_false_iff_not]; omega) | (left; assumption) | (right; assumption) | omega | (simp only [Bool.not_eq_true, Bool.not_eq_false] at *; assumption))) (by (first | assumption | (simp only [masters_iff]; simp only [decide_eq_true_eq, decide_eq_false_iff_not]; omega) | (rw [primAt_0 (by assumption)]; assumption) | (left; simp only [masters_iff]; simp only [decide_eq_true_eq, decide_eq_false_iff_not]; omega) | (left; assumption) | (right; assumption) | omega | (simp only [Bool.not_eq_true, Bool.not_eq_false] at *; assumption))) (by (first | assumption | (simp only [masters_iff]; simp only [decide_eq_true_eq, decide_eq_false_iff_not]; omega) | (rw [primAt_0 (by assumption)]; assumption) | (left; simp only [masters_iff]; simp only [decide_eq_true_eq, decide_eq_false_iff_not]; omega) | (left; assumption) | (right; assumption) | omega | (simp only [Bool.not_eq_true, Bool.not_eq_false] at *; assumption))) (by (first | assumption | (simp only [masters_iff]; simp only [decide_eq_true_eq, decide_eq_false_iff_not]; omega) | (rw [primAt_0 (by assumption)]; assumption) | (left; simp only [masters_iff]; simp only [decide_eq_true_eq, decide_eq_false_iff_not]; omega) | (left; assumption) | (right; assumption) | omega | (simp only [Bool.not_eq_true, Bool.not_eq_false] at *; assumption))), setLease, setMast, setLog, setCommit, setTail, setSrv, srvAt]; done)
    | fail)
theorem renew_s (c : Clu) (id : Int) (term : Int) (hB : CluB c) : Fn Go.Proofs.Tryz.prog 79 [.a (eClu false c), .c (.v (vi id)), .c (.v (vi term))] [.a [.d, .d, .d, .d, .d, .d, .d, .d, .d, .d], .c .d, .c .d] [.a (eClu true ((renew c id term).1)), .c (.v (vi ((renew c id term).2)))] := by
  refine E.Fn.ev (n := 76) mdG false mix Go.Proofs.Tryz.func79 rfl (by simp [Go.Proofs.Tryz.f79]) Go.Proofs.Tryz.ntmps79 (by simp) (by kernel_rfl) (rs := [.cell 6 40, .tmp 7]) (tys := [40, 3]) rfl rfl (by simp [finOK, A.ts, OWN, ownE, ownT]) (by simp [resOK, A.ts, OWN, ownE, ownT, DE]) ?_
  simp only [go_sem]
  repeat' (first
    | simp only [IJS]
    | (refine E.CALL.use (copyU_s_B _ ?_) ?_ <;> (try simp only [go_sem]))
    | (refine E.CALL.use (upCode_s _ _ ?_) ?_ <;> (try simp only [go_sem]))
    | (refine E.CALL.use (primNow_s_B _ _ ?_) ?_ <;> (try simp only [go_sem]))
    | (refine E.CALL.use (grant_s _ _ _ _ _) ?_ <;> (try simp only [go_sem]))
    | (refine E.GB.use (fun h => ?_) (fun h => ?_) <;> (simp only [go_sem, h]) <;> (try simp only [HFS] at h))
    | (refine E.IX_map ?_ (fun hx => ?_); rotate_left; simp only [go_sem])
    | apply And.intro
    | omega
    | refine congrArg (List.map _) ?_
    | (have q := upCode_0 (c := c) (id := id) (by assumption); have q2 := hasSrv_of q.1; omega; done)
    | (have r4 := validClu_of (c := c) (hasSrv_of (upCode_0 (c := c) (id := id) (by assumption)).1).1; omega; done)
    | (exact (CluB.at (by assumption) _); done)
    | (simp only [renew_1 (by (first | assumption | (simp only [masters_iff]; simp only [decide_eq_true_eq, decide_eq_false_iff_not]; omega) | (rw [primAt_0 (by assumption)]; assumption) | (left; simp only [masters_iff]; simp only [decide_eq_true_eq, decide_eq_false_iff_not]; omega) | (left; assumption) | (right; assumption) | omega | (simp only [Bool.not_eq_true, Bool.not_eq_false] at *; assumption))), setLease, setMast, setLog, setCommit, setTail, setSrv, srvAt]; done)
    | (simp only [renew_2 (by (first | assumption | (simp only [masters_iff]; simp only [decide_eq_true_eq, decide_eq_false_iff_not]; omega) | (rw [primAt_0 (by assumption)]; assumption) | (left; simp only [masters_iff]; simp only [decide_eq_true_eq, decide_eq_false_iff_not]; omega) | (left; assumption) | (right; assumption) | omega | (simp only [Bool.not_eq_true, Bool.not_eq_false] at *; assumption))) (by (first | assumption | (simp only [masters_iff]; simp only [decide_eq_true_eq, decide_eq_false_iff_not]; omega) | (rw [primAt_0 (by assumption)]; assumption) | (left; simp only [masters_iff]; simp only [decide_eq_true_eq, decide_eq_false_iff_not]; omega) | (left; assumption) | (right; assumption) | omega | (simp only [Bool.not_eq_true, Bool.not_eq_false] at *; assumption))), setLease, setMast, setLog, setCommit, setTail, setSrv, srvAt]; done)
    | (simp only [renew_3 (by (first | assumption | (simp only [masters_iff]; simp only [decide_eq_true_eq, decide_eq_false_iff_not]; omega) | (rw [primAt_0 (by assumption)]; assumption) | (left; simp only [masters_iff]; simp only [decide_eq_true_eq, decide_eq_false_iff_not]; omega) | (left; assumption) | (right; assumption) | omega | (simp only [Bool.not_eq_true, Bool.not_eq_false] at *; assumption))) (by (first | assumption | (simp only [masters_iff]; simp only [decide_eq_true_eq, decide_eq_false_iff_not]; omega) | (rw [primAt_0 (by assumption)]; assumption) | (left; simp only [masters_iff]; simp only [decide_eq_true_eq, decide_eq_false_iff_not]; omega) | (left; assumption) | (right; assumption) | omega | (simp only [Bool.not_eq_true, Bool.not_eq_false] at *; assumption))) (by (first | assumption | (simp only [masters_iff]; simp only [decide_eq_true_eq, decide_eq_false_iff_not]; omega) | (rw [primAt_0 (by assumption)]; assumption) | (left; simp only [masters_iff]; simp only [decide_eq_true_eq, decide_eq_false_iff_not]; omega) | (left; assumption) | (right; assumption) | omega | (simp only [Bool.not_eq_true, Bool.not_eq_false] at *; assumption))), setLease, setMast, setLog, setCommit, setTail, setSrv, srvAt]; done)
    | (simp only [renew_5 (by (first | assumption | (simp only [masters_iff]; simp only [decide_eq_true_eq, decide_eq_false_iff_not]; omega) | (rw [primAt_0 (by assumption)]; assumption) | (left; simp only [masters_iff]; simp only [decide_eq_true_eq, decide_eq_false_iff_not]; omega) | (left; assumption) | (right; assumption) | omega | (simp only [Bool.not_eq_true, Bool.not_eq_false] at *; assumption))) (by (first | assumption | (simp only [masters_iff]; simp only [decide_eq_true_eq, decide_eq_false_iff_not]; omega) | (rw [primAt_0 (by assumption)]; assumption) | (left; simp only [masters_iff]; simp only [decide_eq_true_eq, decide_eq_false_iff_not]; omega) | (left; assumption) | (right; assumption) | omega | (simp only [Bool.not_eq_true, Bool.not_eq_false] at *; assumption))) (by (first | assumption | (simp only [masters_iff]; simp only [decide_eq_true_eq, decide_eq_false_iff_not]; omega) | (rw [primAt_0 (by assumption)]; assumption) | (left; simp only [masters_iff]; simp only [decide_eq_true_eq, decide_eq_false_iff_not]; omega) | (left; assumption) | (right; assumption) | omega | (simp only [Bool.not_eq_true, Bool.not_eq_false] at *; assumption))) (by (first | assumption | (simp only [masters_iff]; simp only [decide_eq_true_eq, decide_eq_false_iff_not]; omega) | (rw [primAt_0 (by assumption)]; assumption) | (left; simp only [masters_iff]; simp only [decide_eq_true_eq, decide_eq_false_iff_not]; omega) | (left; assumption) | (right; assumption) | omega | (simp only [Bool.not_eq_true, Bool.not_eq_false] at *; assumption))) (by (first | assumption | (simp only [masters_iff]; simp only [decide_eq_true_eq, decide_eq_false_iff_not]; omega) | (rw [primAt_0 (by assumption)]; assumption) | (left; simp only [masters_iff]; simp only [decide_eq_true_eq, decide_eq_false_iff_not]; omega) | (left; assumption) | (right; assumption) | omega | (simp only [Bool.not_eq_true, Bool.not_eq_false] at *; assumption))) (by (first | assumption | (simp only [masters_iff]; simp only [decide_eq_true_eq, decide_eq_false_iff_not]; omega) | (rw [primAt_0 (by assumption)]; assumption) | (left; simp only [masters_iff]; simp only [decide_eq_true_eq, decide_eq_false_iff_not]; omega) | (left; assumption) | (right; assumption) | omega | (simp only [Bool.not_eq_true, Bool.not_eq_false] at *; assumption))), setLease, setMast, setLog, setCommit, setTail, setSrv, srvAt]; done)
    | (simp only [renew_6 (by (first | assumption | (simp only [masters_iff]; simp only [decide_eq_true_eq, decide_eq_false_iff_not]; omega) | (rw [primAt_0 (by assumption)]; assumption) | (left; simp only [masters_iff]; simp only [decide_eq_true_eq, decide_eq_false_iff_not]; omega) | (left; assumption) | (right; assumption) | omega | (simp only [Bool.not_eq_true, Bool.not_eq_false] at *; assumption))) (by (first | assumption | (simp only [masters_iff]; simp only [decide_eq_true_eq, decide_eq_false_iff_not]; omega) | (rw [primAt_0 (by assumption)]; assumption) | (left; simp only [masters_iff]; simp only [decide_eq_true_eq, decide_eq_false_iff_not]; omega) | (left; assumption) | (right; assumption) | omega | (simp only [Bool.not_eq_true, Bool.not_eq_false] at *; assumption))) (by (first | assumption | (simp only [masters_iff]; simp only [decide_eq_true_eq, decide_eq_false_iff_not]; omega) | (rw [primAt_0 (by assumption)]; assumption) | (left; simp only [masters_iff]; simp only [decide_eq_true_eq, decide_eq_false_iff_not]; omega) | (left; assumption) | (right; assumption) | omega | (simp only [Bool.not_eq_true, Bool.not_eq_false] at *; assumption))) (by (first | assumption | (simp only [masters_iff]; simp only [decide_eq_true_eq, decide_eq_false_iff_not]; omega) | (rw [primAt_0 (by assumption)]; assumption) | (left; simp only [masters_iff]; simp only [decide_eq_true_eq, decide_eq_false_iff_not]; omega) | (left; assumption) | (right; assumption) | omega | (simp only [Bool.not_eq_true, Bool.not_eq_false] at *; assumption))) (by (first | assumption | (simp only [masters_iff]; simp only [decide_eq_true_eq, decide_eq_false_iff_not]; omega) | (rw [primAt_0 (by assumption)]; assumption) | (left; simp only [masters_iff]; simp only [decide_eq_true_eq, decide_eq_false_iff_not]; omega) | (left; assumption) | (right; assumption) | omega | (simp only [Bool.not_eq_true, Bool.not_eq_false] at *; assumption))) (by (first | assumption | (simp only [masters_iff]; simp only [decide_eq_true_eq, decide_eq_false_iff_not]; omega) | (rw [primAt_0 (by assumption)]; assumption) | (left; simp only [masters_iff]; simp only [decide_eq_true_eq, decide_eq_false_iff_not]; omega) | (left; assumption) | (right; assumption) | omega | (simp only [Bool.not_eq_true, Bool.not_eq_false] at *; assumption))), setLease, setMast, setLog, setCommit, setTail, setSrv, srvAt]; done)
    | (have r3 := prim_ep (c := c) (id := id) (by first | assumption | (rw [primAt_0 (by assumption)]; assumption)); simp only [renew_4 (by (first | assumption | (simp only [masters_iff]; simp only [decide_eq_true_eq, decide_eq_false_iff_not]; omega) | (rw [primAt_0 (by assumption)]; assumption) | (left; simp only [masters_iff]; simp only [decide_eq_true_eq, decide_eq_false_iff_not]; omega) | (left; assumption) | (right; assumption) | omega | (simp only [Bool.not_eq_true, Bool.not_eq_false] at *; assumption))) (by (first | assumption | (simp only [masters_iff]; simp only [decide_eq_true_eq, decide_eq_false_iff_not]; omega) | (rw [primAt_0 (by assumption)]; assumption) | (left; simp only [masters_iff]; simp only [decide_eq_true_eq, decide_eq_false_iff_not]; omega) | (left; assumption) | (right; assumption) | omega | (simp only [Bool.not_eq_true, Bool.not_eq_false] at *; assumption))) (by (first | assumption | (simp only [masters_iff]; simp only [decide_eq_true_eq, decide_eq_false_iff_not]; omega) | (rw [primAt_0 (by assumption)]; assumption) | (left; simp only [masters_iff]; simp only [decide_eq_true_eq, decide_eq_false_iff_not]; omega) | (left; assumption) | (right; assumption) | omega | (simp only [Bool.not_eq_true, Bool.not_eq_false] at *; assumption))) (by (first | assumption | (simp only [masters_iff]; simp only [decide_eq_true_eq, decide_eq_false_iff_not]; omega) | (rw [primAt_0 (by assumption)]; assumption) | (left; simp only [masters_iff]; simp only [decide_eq_true_eq, decide_eq_false_iff_not]; omega) | (left; assumption) | (right; assumption) | omega | (simp only [Bool.not_eq_true, Bool.not_eq_false] at *; assumption))) (by (first | assumption | (simp only [masters_iff]; simp only [decide_eq_true_eq, decide_eq_false_iff_not]; omega) | (rw [primAt_0 (by assumption)]; assumption) | (left; simp only [masters_iff]; simp only [decide_eq_true_eq, decide_eq_false_iff_not]; omega) | (left; assumption) | (right; assumption) | omega | (simp only [Bool.not_eq_true, Bool.not_eq_false] at *; assumption))), setLease, setMast, setLog, setCommit, setTail, setSrv, srvAt]; done)
    | fail)
theorem propN_i (c : Clu) (x : Conf) (hB : CluB c) (hX : ConfB x) : Fn Go.Proofs.Tryz.prog 83 [.a (eClu false c), .a (eConf false x)] [.a [.d, .d, .d, .d, .d, .d, .d, .d, .d, .d], .a [.d, .d, .d, .d]] [.a (eClu true ((proposeN c x).1)), .c (.v (vi ((proposeN c x).2)))] := by
  refine E.Fn.ev (n := 32) mdG false mix Go.Proofs.Tryz.func83 rfl (by simp [Go.Proofs.Tryz.f83]) Go.Proofs.Tryz.ntmps83 (by simp) (by kernel_rfl) (rs := [.cell 4 40, .tmp 5]) (tys := [40, 3]) rfl rfl (by simp [finOK, A.ts, OWN, ownE, ownT]) (by simp [resOK, A.ts, OWN, ownE, ownT, DE]) ?_
  simp only [go_sem]
  repeat' (first
    | simp only [IJS]
    | (refine E.CALL.use (copyU_i_B _ ?_) ?_ <;> (try simp only [go_sem]))
    | (refine E.CALL.use (validClu_i _ ?_) ?_ <;> (try simp only [go_sem]))
    | (refine E.CALL.use (mw_i _ ?_) ?_ <;> (try simp only [go_sem]))
    | (refine E.CALL.use (propose_i_B _ _ ?_ ?_) ?_ <;> (try simp only [go_sem]))
    | (refine E.GB.use (fun h => ?_) (fun h => ?_) <;> (simp only [go_sem, h]) <;> (try simp only [HFS] at h))
    | apply And.intro
    | omega
    | refine congrArg (List.map _) ?_
    | (exact CluB.m (by assumption); done)
    | (simp only [propN_1 (by (first | assumption | (simp only [masters_iff]; simp only [decide_eq_true_eq, decide_eq_false_iff_not]; omega) | (rw [primAt_0 (by assumption)]; assumption) | (left; simp only [masters_iff]; simp only [decide_eq_true_eq, decide_eq_false_iff_not]; omega) | (left; assumption) | (right; assumption) | omega | (simp only [Bool.not_eq_true, Bool.not_eq_false] at *; assumption))), setLease, setMast, setLog, setCommit, setTail, setSrv, srvAt]; done)
    | (simp only [propN_2 (by (first | assumption | (simp only [masters_iff]; simp only [decide_eq_true_eq, decide_eq_false_iff_not]; omega) | (rw [primAt_0 (by assumption)]; assumption) | (left; simp only [masters_iff]; simp only [decide_eq_true_eq, decide_eq_false_iff_not]; omega) | (left; assumption) | (right; assumption) | omega | (simp only [Bool.not_eq_true, Bool.not_eq_false] at *; assumption))) (by (first | assumption | (simp only [masters_iff]; simp only [decide_eq_true_eq, decide_eq_false_iff_not]; omega) | (rw [primAt_0 (by assumption)]; assumption) | (left; simp only [masters_iff]; simp only [decide_eq_true_eq, decide_eq_false_iff_not]; omega) | (left; assumption) | (right; assumption) | omega | (simp only [Bool.not_eq_true, Bool.not_eq_false] at *; assumption))), setLease, setMast, setLog, setCommit, setTail, setSrv, srvAt]; done)
    | (simp only [propN_3 (by (first | assumption | (simp only [masters_iff]; simp only [decide_eq_true_eq, decide_eq_false_iff_not]; omega) | (rw [primAt_0 (by assumption)]; assumption) | (left; simp only [masters_iff]; simp only [decide_eq_true_eq, decide_eq_false_iff_not]; omega) | (left; assumption) | (right; assumption) | omega | (simp only [Bool.not_eq_true, Bool.not_eq_false] at *; assumption))) (by (first | assumption | (simp only [masters_iff]; simp only [decide_eq_true_eq, decide_eq_false_iff_not]; omega) | (rw [primAt_0 (by assumption)]; assumption) | (left; simp only [masters_iff]; simp only [decide_eq_true_eq, decide_eq_false_iff_not]; omega) | (left; assumption) | (right; assumption) | omega | (simp only [Bool.not_eq_true, Bool.not_eq_false] at *; assumption))) (by (first | assumption | (simp only [masters_iff]; simp only [decide_eq_true_eq, decide_eq_false_iff_not]; omega) | (rw [primAt_0 (by assumption)]; assumption) | (left; simp only [masters_iff]; simp only [decide_eq_true_eq, decide_eq_false_iff_not]; omega) | (left; assumption) | (right; assumption) | omega | (simp only [Bool.not_eq_true, Bool.not_eq_false] at *; assumption))), setLease, setMast, setLog, setCommit, setTail, setSrv, srvAt]; done)
    | (simp only [propN_4 (by (first | assumption | (simp only [masters_iff]; simp only [decide_eq_true_eq, decide_eq_false_iff_not]; omega) | (rw [primAt_0 (by assumption)]; assumption) | (left; simp only [masters_iff]; simp only [decide_eq_true_eq, decide_eq_false_iff_not]; omega) | (left; assumption) | (right; assumption) | omega | (simp only [Bool.not_eq_true, Bool.not_eq_false] at *; assumption))) (by (first | assumption | (simp only [masters_iff]; simp only [decide_eq_true_eq, decide_eq_false_iff_not]; omega) | (rw [primAt_0 (by assumption)]; assumption) | (left; simp only [masters_iff]; simp only [decide_eq_true_eq, decide_eq_false_iff_not]; omega) | (left; assumption) | (right; assumption) | omega | (simp only [Bool.not_eq_true, Bool.not_eq_false] at *; assumption))) (by (first | assumption | (simp only [masters_iff]; simp only [decide_eq_true_eq, decide_eq_false_iff_not]; omega) | (rw [primAt_0 (by assumption)]; assumption) | (left; simp only [masters_iff]; simp only [decide_eq_true_eq, decide_eq_false_iff_not]; omega) | (left; assumption) | (right; assumption) | omega | (simp only [Bool.not_eq_true, Bool.not_eq_false] at *; assumption))), setLease, setMast, setLog, setCommit, setTail, setSrv, srvAt]; done)
    | fail)
theorem propN_s (c : Clu) (x : Conf) (hB : CluB c) (hX : ConfB x) : Fn Go.Proofs.Tryz.prog 76 [.a (eClu false c), .a (eConf false x)] [.a [.d, .d, .d, .d, .d, .d, .d, .d, .d, .d], .a [.d, .d, .d, .d]] [.a (eClu true ((proposeN c x).1)), .c (.v (vi ((proposeN c x).2)))] := by
  refine E.Fn.ev (n := 33) mdG false mix Go.Proofs.Tryz.func76 rfl (by simp [Go.Proofs.Tryz.f76]) Go.Proofs.Tryz.ntmps76 (by simp) (by kernel_rfl) (rs := [.cell 4 40, .tmp 5]) (tys := [40, 3]) rfl rfl (by simp [finOK, A.ts, OWN, ownE, ownT]) (by simp [resOK, A.ts, OWN, ownE, ownT, DE]) ?_
  simp only [go_sem]
  repeat' (first
    | simp only [IJS]
    | (refine E.CALL.use (copyU_s_B _ ?_) ?_ <;> (try simp only [go_sem]))
    | (refine E.CALL.use (validClu_s_B _ ?_) ?_ <;> (try simp only [go_sem]))
    | (refine E.CALL.use (propose_s_B _ _ ?_ ?_) ?_ <;> (try simp only [go_sem]))
    | (refine E.GB.use (fun h => ?_) (fun h => ?_) <;> (simp only [go_sem, h]) <;> (try simp only [HFS] at h))
    | apply And.intro
    | omega
    | refine congrArg (List.map _) ?_
    | (have r4 := validClu_of (c := c) (by assumption); omega; done)
    | (exact CluB.m (by assumption); done)
    | (simp only [propN_1 (by (first | assumption | (simp only [masters_iff]; simp only [decide_eq_true_eq, decide_eq_false_iff_not]; omega) | (rw [primAt_0 (by assumption)]; assumption) | (left; simp only [masters_iff]; simp only [decide_eq_true_eq, decide_eq_false_iff_not]; omega) | (left; assumption) | (right; assumption) | omega | (simp only [Bool.not_eq_true, Bool.not_eq_false] at *; assumption))), setLease, setMast, setLog, setCommit, setTail, setSrv, srvAt]; done)
    | (simp only [propN_2 (by (first | assumption | (simp only [masters_iff]; simp only [decide_eq_true_eq, decide_eq_false_iff_not]; omega) | (rw [primAt_0 (by assumption)]; assumption) | (left; simp only [masters_iff]; simp only [decide_eq_true_eq, decide_eq_false_iff_not]; omega) | (left; assumption) | (right; assumption) | omega | (simp only [Bool.not_eq_true, Bool.not_eq_false] at *; assumption))) (by (first | assumption | (simp only [masters_iff]; simp only [decide_eq_true_eq, decide_eq_false_iff_not]; omega) | (rw [primAt_0 (by assumption)]; assumption) | (left; simp only [masters_iff]; simp only [decide_eq_true_eq, decide_eq_false_iff_not]; omega) | (left; assumption) | (right; assumption) | omega | (simp only [Bool.not_eq_true, Bool.not_eq_false] at *; assumption))), setLease, setMast, setLog, setCommit, setTail, setSrv, srvAt]; done)
    | (simp only [propN_3 (by (first | assumption | (simp only [masters_iff]; simp only [decide_eq_true_eq, decide_eq_false_iff_not]; omega) | (rw [primAt_0 (by assumption)]; assumption) | (left; simp only [masters_iff]; simp only [decide_eq_true_eq, decide_eq_false_iff_not]; omega) | (left; assumption) | (right; assumption) | omega | (simp only [Bool.not_eq_true, Bool.not_eq_false] at *; assumption))) (by (first | assumption | (simp only [masters_iff]; simp only [decide_eq_true_eq, decide_eq_false_iff_not]; omega) | (rw [primAt_0 (by assumption)]; assumption) | (left; simp only [masters_iff]; simp only [decide_eq_true_eq, decide_eq_false_iff_not]; omega) | (left; assumption) | (right; assumption) | omega | (simp only [Bool.not_eq_true, Bool.not_eq_false] at *; assumption))) (by (first | assumption | (simp only [masters_iff]; simp only [decide_eq_true_eq, decide_eq_false_iff_not]; omega) | (rw [primAt_0 (by assumption)]; assumption) | (left; simp only [masters_iff]; simp only [decide_eq_true_eq, decide_eq_false_iff_not]; omega) | (left; assumption) | (right; assumption) | omega | (simp only [Bool.not_eq_true, Bool.not_eq_false] at *; assumption))), setLease, setMast, setLog, setCommit, setTail, setSrv, srvAt]; done)
    | (simp only [propN_4 (by (first | assumption | (simp only [masters_iff]; simp only [decide_eq_true_eq, decide_eq_false_iff_not]; omega) | (rw [primAt_0 (by assumption)]; assumption) | (left; simp only [masters_iff]; simp only [decide_eq_true_eq, decide_eq_false_iff_not]; omega) | (left; assumption) | (right; assumption) | omega | (simp only [Bool.not_eq_true, Bool.not_eq_false] at *; assumption))) (by (first | assumption | (simp only [masters_iff]; simp only [decide_eq_true_eq, decide_eq_false_iff_not]; omega) | (rw [primAt_0 (by assumption)]; assumption) | (left; simp only [masters_iff]; simp only [decide_eq_true_eq, decide_eq_false_iff_not]; omega) | (left; assumption) | (right; assumption) | omega | (simp only [Bool.not_eq_true, Bool.not_eq_false] at *; assumption))) (by (first | assumption | (simp only [masters_iff]; simp only [decide_eq_true_eq, decide_eq_false_iff_not]; omega) | (rw [primAt_0 (by assumption)]; assumption) | (left; simp only [masters_iff]; simp only [decide_eq_true_eq, decide_eq_false_iff_not]; omega) | (left; assumption) | (right; assumption) | omega | (simp only [Bool.not_eq_true, Bool.not_eq_false] at *; assumption))), setLease, setMast, setLog, setCommit, setTail, setSrv, srvAt]; done)
    | fail)
end
section
attribute [local go_sem] mdG_eq mdM toNat_pred setI List.length_set eLI_eq eLE_eq
theorem bestSrc_i (c : Clu) (id : Int) (hB : CluB c) : Fn Go.Proofs.Tryz.prog 143 [.a (eClu false c), .c (.v (vi id))] [.a [.d, .d, .d, .d, .d, .d, .d, .d, .d, .d], .c .d] [.c (.v (vi (bestSource c id)))] := by
  refine E.Fn.ev (n := 38) mdG false mix Go.Proofs.Tryz.func143 rfl (by simp [Go.Proofs.Tryz.f143]) Go.Proofs.Tryz.ntmps143 (by simp) (by kernel_rfl) (rs := [.tmp 4]) (tys := [3]) rfl rfl (by simp [finOK, A.ts, OWN, ownE, ownT]) (by simp [resOK, A.ts, OWN, ownE, ownT, DE]) ?_
  simp only [go_sem]
  repeat' (first
    | simp only [IJS]
    | (refine E.CALL.use (sources_i _ _ ?_) ?_ <;> (try simp only [go_sem]))
    | (refine E.GB.use (fun h => ?_) (fun h => ?_) <;> (simp only [go_sem, h]) <;> (try simp only [HFS] at h))
    | exact E.INDEP.mk2 (by kernel_rfl)
    | exact E.RK.mk (by kernel_rfl)
    | (refine E.IX_map ?_ (fun hx => ?_); rotate_left; simp only [go_sem])
    | (refine E.loopR (ι := Nat × Int) 3 rfl (fun ⟨i, b⟩ => [(.s 12, .v (.c (.v (vi i)))), (.s 5, .v (.c (.v (vi b))))]) [2, 4, 10, 11, 37] [] [] (fun ⟨i, b⟩ => (sourcesFor c id).length - i) (fun ⟨i, b⟩ => i ≤ (sourcesFor c id).length ∧ bestOf c b ((sourcesFor c id).drop i) = bestSource c id ∧ (0 ≤ b → b ≤ 4 ∧ 0 < i) ∧ -1 ≤ b) mix (by kernel_rfl) (0, -1) ?_ ?_ (fun ⟨i, b⟩ ⟨hi, hR, hb, hb2⟩ => ?_); all_goals (try simp (maxSteps := 900000) only [go_sem]); all_goals (try dsimp only at hi hR hb hb2))
    | (refine E.NEXT.use [] (i + 1, b) ?_ ?_ ?_; rotate_left 2; focus (simp (maxSteps := 900000) only [go_sem]; (repeat' (first | with_reducible rfl | exact E.RK.mk (by kernel_rfl) | apply And.intro | (push_cast; with_reducible rfl) | (refine E.int_c ?_; omega) | (simp only [go_sem]; done) | (rw [List.map_append]; rfl) | (simp; done) | (simp only [*]; done) | fail)); done))
    | (refine E.NEXT.use [] (i + 1, at' (sourcesFor c id) i) ?_ ?_ ?_; rotate_left 2; focus (simp (maxSteps := 900000) only [go_sem]; (repeat' (first | with_reducible rfl | exact E.RK.mk (by kernel_rfl) | apply And.intro | (push_cast; with_reducible rfl) | (refine E.int_c ?_; omega) | (simp only [go_sem]; done) | (rw [List.map_append]; rfl) | (simp; done) | (simp only [*]; done) | fail)); done))
    | apply And.intro
    | omega
    | (have q := src_len c id; omega; done)
    | (have q := src_in (c := c) (id := id) (E.at_mem (l := sourcesFor c id) (i := i) (by omega)); omega; done)
    | (rw [drop_at (l := sourcesFor c id) (i := i) (by omega)] at hR; rw [bestOf] at hR; simpa [srvAt, *] using hR; done)
    | (rw [drop_at (l := sourcesFor c id) (i := i) (by omega)] at hR; rw [bestOf, if_pos (by simp only [srvAt]; omega)] at hR; exact hR; done)
    | (rw [drop_at (l := sourcesFor c id) (i := i) (by omega)] at hR; rw [bestOf, if_neg (by simp only [srvAt]; omega)] at hR; exact hR; done)
    | (rw [E.drop_end (l := sourcesFor c id) (i := i) (by omega)] at hR; exact hR; done)
    | (rfl; done)
    | fail)
theorem bestSrc_s (c : Clu) (id : Int) (hB : CluB c) : Fn Go.Proofs.Tryz.prog 121 [.a (eClu false c), .c (.v (vi id))] [.a [.d, .d, .d, .d, .d, .d, .d, .d, .d, .d], .c .d] [.c (.v (vi (bestSource c id)))] := by
  refine E.Fn.ev (n := 44) mdG false mix Go.Proofs.Tryz.func121 rfl (by simp [Go.Proofs.Tryz.f121]) Go.Proofs.Tryz.ntmps121 (by simp) (by kernel_rfl) (rs := [.tmp 4]) (tys := [3]) rfl rfl (by simp [finOK, A.ts, OWN, ownE, ownT]) (by simp [resOK, A.ts, OWN, ownE, ownT, DE]) ?_
  simp only [go_sem]
  repeat' (first
    | simp only [IJS]
    | (refine E.CALL.use (sources_s _ _ ?_) ?_ <;> (try simp only [go_sem]))
    | (refine E.GB.use (fun h => ?_) (fun h => ?_) <;> (simp only [go_sem, h]) <;> (try simp only [HFS] at h))
    | exact E.INDEP.mk2 (by kernel_rfl)
    | exact E.RK.mk (by kernel_rfl)
    | (refine E.IX_map ?_ (fun hx => ?_); rotate_left; simp only [go_sem])
    | (refine E.loopR (ι := Nat × Int) 4 rfl (fun ⟨i, b⟩ => [(.s 7, .v (.c (.v (vi i)))), (.s 5, .v (.c (.v (vi b))))]) [2, 4, 6, 43] [] [] (fun ⟨i, b⟩ => (sourcesFor c id).length - i) (fun ⟨i, b⟩ => i ≤ (sourcesFor c id).length ∧ bestOf c b ((sourcesFor c id).drop i) = bestSource c id ∧ (0 ≤ b → b ≤ 4 ∧ 0 < i) ∧ -1 ≤ b) mix (by kernel_rfl) (0, -1) ?_ ?_ (fun ⟨i, b⟩ ⟨hi, hR, hb, hb2⟩ => ?_); all_goals (try simp (maxSteps := 900000) only [go_sem]); all_goals (try dsimp only at hi hR hb hb2))
    | (refine E.NEXT.use [] (i + 1, b) ?_ ?_ ?_; rotate_left 2; focus (simp (maxSteps := 900000) only [go_sem]; (repeat' (first | with_reducible rfl | exact E.RK.mk (by kernel_rfl) | apply And.intro | (push_cast; with_reducible rfl) | (refine E.int_c ?_; omega) | (simp only [go_sem]; done) | (rw [List.map_append]; rfl) | (simp; done) | (simp only [*]; done) | fail)); done))
    | (refine E.NEXT.use [] (i + 1, at' (sourcesFor c id) i) ?_ ?_ ?_; rotate_left 2; focus (simp (maxSteps := 900000) only [go_sem]; (repeat' (first | with_reducible rfl | exact E.RK.mk (by kernel_rfl) | apply And.intro | (push_cast; with_reducible rfl) | (refine E.int_c ?_; omega) | (simp only [go_sem]; done) | (rw [List.map_append]; rfl) | (simp; done) | (simp only [*]; done) | fail)); done))
    | apply And.intro
    | omega
    | (have q := src_len c id; omega; done)
    | (have q := src_in (c := c) (id := id) (E.at_mem (l := sourcesFor c id) (i := i) (by omega)); omega; done)
    | (rw [drop_at (l := sourcesFor c id) (i := i) (by omega)] at hR; rw [bestOf] at hR; simpa [srvAt, *] using hR; done)
    | (rw [drop_at (l := sourcesFor c id) (i := i) (by omega)] at hR; rw [bestOf, if_pos (by simp only [srvAt]; omega)] at hR; exact hR; done)
    | (rw [drop_at (l := sourcesFor c id) (i := i) (by omega)] at hR; rw [bestOf, if_neg (by simp only [srvAt]; omega)] at hR; exact hR; done)
    | (rw [E.drop_end (l := sourcesFor c id) (i := i) (by omega)] at hR; exact hR; done)
    | (rfl; done)
    | fail)
end
section
attribute [local go_sem] mdG_eq mdM toNat_pred setI List.length_set eLI_eq eLE_eq
theorem isTail_s2 (f : Int) (t : List LEnt) (ht : t.length ≤ 1048576) : Fn Go.Proofs.Tryz.prog 227 [.c (.v (vi f)), .c (.s false 7 (t.map eLEnt))] [.c .d, .c .d] [.c (.v (.bool (isTail f t)))] := by
  refine E.Fn.ev (n := 28) mdG false mix Go.Proofs.Tryz.func227 rfl (by simp [Go.Proofs.Tryz.f227]) Go.Proofs.Tryz.ntmps227 (by simp) (by kernel_rfl) (rs := [.tmp 4]) (tys := [4]) rfl rfl (by simp [finOK, A.ts, OWN, ownE, ownT]) (by simp [resOK, A.ts, OWN, ownE, ownT, DE]) ?_
  simp only [go_sem]
  repeat' (first
    | simp only [IJS]
    | (refine E.CALL.use (isLog_s _ ?_) ?_ <;> (try simp only [go_sem]))
    | (refine E.CALL.use (in_s _ _ _) ?_ <;> (try simp only [go_sem]))
    | (refine E.GB.use (fun h => ?_) (fun h => ?_) <;> (simp only [go_sem, h]) <;> (try simp only [HFS] at h))
    | apply And.intro
    | omega
    | (rw [isTail_long h]; done)
    | (simp_all [isTail]; done)
    | fail)
theorem getD_none {b t : List LEnt} {f : Int} (h : joinTail b f t = none) : ([] : List (List T)) = ((joinTail b f t).getD []).map eLEnt := by rw [h]; rfl
theorem isS_none {b t : List LEnt} {f : Int} (h : joinTail b f t = none) : false = (joinTail b f t).isSome := by rw [h]; rfl
theorem joinTail_s (b : List LEnt) (f : Int) (t : List LEnt) (ha : b.length ≤ 1048576) (ht : t.length ≤ 1048576) : Fn Go.Proofs.Tryz.prog 192 [.c (.s false 7 (b.map eLEnt)), .c (.v (vi f)), .c (.s false 7 (t.map eLEnt))] [.c .d, .c .d, .c .d] [.c (.s true 7 (((joinTail b f t).getD []).map eLEnt)), .c (.v (.bool ((joinTail b f t).isSome)))] := by
  refine E.Fn.ev (n := 52) mdG false mix Go.Proofs.Tryz.func192 rfl (by simp [Go.Proofs.Tryz.f192]) Go.Proofs.Tryz.ntmps192 (by simp) (by kernel_rfl) (rs := [.tmp 6, .tmp 7]) (tys := [64, 4]) rfl rfl (by simp [finOK, A.ts, OWN, ownE, ownT]) (by simp [resOK, A.ts, OWN, ownE, ownT, DE]) ?_
  simp only [go_sem]
  repeat' (first
    | simp only [IJS]
    | (refine E.CALL.use (isLog_s _ ?_) ?_ <;> (try simp only [go_sem]))
    | (refine E.CALL.use (isTail_s2 _ _ ?_) ?_ <;> (try simp only [go_sem]))
    | (refine E.CALL.use (comPre_s _ _ ?_ ?_) ?_ <;> (try simp only [go_sem]))
    | (refine E.CALL.use (copyL_s _ ?_) ?_ <;> (try simp only [go_sem]))
    | (refine E.GB.use (fun h => ?_) (fun h => ?_) <;> (simp only [go_sem, h]) <;> (try simp only [HFS] at h))
    | exact E.INDEP.mk2 (by kernel_rfl)
    | apply And.intro
    | omega
    | (simp only [List.length_take, List.length_drop, List.length_append, List.length_set, List.length_cons, List.length_nil]; omega)
    | refine congrArg (List.map _) ?_
    | (have q := isTail_of (f := f) (t := t) (by assumption); have q2 := isLog_len (l := b) (by assumption); omega; done)
    | (have q := isTail_of (f := f) (t := t) (by assumption); have q2 := isLog_len (l := b) (by assumption); simp only [List.length_take, List.length_drop, List.length_append]; omega; done)
    | (exact getD_none (joinTail_none (.inl (by assumption))); done)
    | (exact isS_none (joinTail_none (.inl (by assumption))); done)
    | (exact getD_none (joinTail_none (.inr (.inl (by assumption)))); done)
    | (exact isS_none (joinTail_none (.inr (.inl (by assumption)))); done)
    | (exact getD_none (joinTail_none (.inr (.inr (by omega)))); done)
    | (exact isS_none (joinTail_none (.inr (.inr (by omega)))); done)
    | (exact getD_none (joinTail_n2 (by assumption) (by assumption) (by omega) (.inl h)); done)
    | (exact isS_none (joinTail_n2 (by assumption) (by assumption) (by omega) (.inl h)); done)
    | (exact getD_none (joinTail_n2 (by assumption) (by assumption) (by omega) (.inr h)); done)
    | (exact isS_none (joinTail_n2 (by assumption) (by assumption) (by omega) (.inr h)); done)
    | (rw [joinTail_y2 (by assumption) (by assumption) (by omega) (by assumption) (by assumption)] <;> rfl; done)
    | (have q := isTail_of (f := f) (t := t) (by assumption); have q2 := isLog_len (l := b) (by assumption); have q3 := comPre_len ((b.drop f.toNat).take ((b.length : Int) - f).toNat) t; omega; done)
    | fail)
end
section
attribute [local go_sem] mdG_eq mdM toNat_pred setI List.length_set eLI_eq eLE_eq
theorem comData_ni {s : Srv} {id : Int} (h : isRep s id = false) : s.learned = comData s id := by rw [comData, if_neg (by simp [h])]
theorem comData_nl {s : Srv} {id : Int} (h : ((comPart s).length : Int) ≤ s.learned.length) : s.learned = comData s id := by rw [comData, if_neg (by omega)]
theorem comData_y {s : Srv} {id : Int} (h : isRep s id = true) (h2 : (s.learned.length : Int) < (comPart s).length) : comPart s = comData s id := by rw [comData, if_pos ⟨h, by omega⟩]
theorem isRep_role {s : Srv} {id : Int} (h : roleOf s.conf id = 1 ∨ roleOf s.conf id = 2) : isRep s id = true := by
  have hv := role_valid (c := s.conf) (id := id) (by omega)
  exact (role_rep hv).1 h
theorem comData_i (s : Srv) (id : Int) (hB : SrvB s) : Fn Go.Proofs.Tryz.prog 207 [.a (eSrv false s), .c (.v (vi id))] [.a [.d, .d, .d, .d, .d, .d, .d, .d, .d, .d, .d, .d], .c .d] [.c (.s true 7 ((comData s id).map eLEnt))] := by
  refine E.Fn.ev (n := 23) mdG false mix Go.Proofs.Tryz.func207 rfl (by simp [Go.Proofs.Tryz.f207]) Go.Proofs.Tryz.ntmps207 (by simp) (by kernel_rfl) (rs := [.tmp 4]) (tys := [64]) rfl rfl (by simp [finOK, A.ts, OWN, ownE, ownT]) (by simp [resOK, A.ts, OWN, ownE, ownT, DE]) ?_
  simp only [go_sem]
  repeat' (first
    | simp only [IJS]
    | (refine E.CALL.use (comPart_i _ ?_) ?_ <;> (try simp only [go_sem]))
    | (refine E.CALL.use (isRep_i _ _ ?_) ?_ <;> (try simp only [go_sem]))
    | (refine E.CALL.use (cloneE_c _ ?_) ?_ <;> (try simp only [go_sem]))
    | (refine E.GB.use (fun h => ?_) (fun h => ?_) <;> (simp only [go_sem, h]) <;> (try simp only [HFS] at h))
    | apply And.intro
    | omega
    | refine congrArg (List.map _) ?_
    | (exact SrvB.learned (by assumption); done)
    | (exact comData_ni (by assumption); done)
    | (exact comData_nl (by assumption); done)
    | (exact comData_y (by assumption) (by assumption); done)
    | fail)
theorem isRep_nr {s : Srv} {id : Int} (hv : s.conf = noConf ∨ validConf s.conf = true) (h1 : ¬ roleOf s.conf id = 1) (h2 : ¬ roleOf s.conf id = 2) : isRep s id = false := by
  rcases hv with hv | hv
  · simp [isRep, hv, noConf]
  · have := (role_rep (id := id) hv).2
    cases h : isRep s id
    · rfl
    · rcases this h with h | h
      · exact absurd h h1
      · exact absurd h h2
theorem comData_s (s : Srv) (id : Int) (hB : SrvB s) (hv : s.conf = noConf ∨ validConf s.conf = true) : Fn Go.Proofs.Tryz.prog 193 [.a (eSrv false s), .c (.v (vi id))] [.a [.d, .d, .d, .d, .d, .d, .d, .d, .d, .d, .d, .d], .c .d] [.c (.s true 7 ((comData s id).map eLEnt))] := by
  refine E.Fn.ev (n := 30) mdG false mix Go.Proofs.Tryz.func193 rfl (by simp [Go.Proofs.Tryz.f193]) Go.Proofs.Tryz.ntmps193 (by simp) (by kernel_rfl) (rs := [.tmp 4]) (tys := [64]) rfl rfl (by simp [finOK, A.ts, OWN, ownE, ownT]) (by simp [resOK, A.ts, OWN, ownE, ownT, DE]) ?_
  simp only [go_sem]
  repeat' (first
    | simp only [IJS]
    | (refine E.CALL.use (role_s_B _ _ ?_) ?_ <;> (try simp only [go_sem]))
    | (refine E.CALL.use (copyL_s _ ?_) ?_ <;> (try simp only [go_sem]))
    | (refine E.CALL.use (comPart_s _ ?_) ?_ <;> (try simp only [go_sem]))
    | (refine E.GB.use (fun h => ?_) (fun h => ?_) <;> (simp only [go_sem, h]) <;> (try simp only [HFS] at h))
    | apply And.intro
    | omega
    | refine congrArg (List.map _) ?_
    | (exact SrvB.conf (by assumption); done)
    | (exact SrvB.learned (by assumption); done)
    | (exact comData_ni (isRep_nr hv (by assumption) (by assumption)); done)
    | (exact comData_nl (by omega); done)
    | (exact comData_y (isRep_role (.inl (by assumption))) (by omega); done)
    | (exact comData_y (isRep_role (.inr (by assumption))) (by omega); done)
    | fail)
end
section
attribute [local go_sem] mdG_eq mdM toNat_pred setI List.length_set eLI_eq eLE_eq
theorem joinTail_i (b : List LEnt) (f : Int) (t : List LEnt) (ha : b.length ≤ 1048576) (ht : t.length ≤ 1048576) : Fn Go.Proofs.Tryz.prog 206 [.c (.s false 7 (b.map eLEnt)), .c (.v (vi f)), .c (.s false 7 (t.map eLEnt))] [.c .d, .c .d, .c .d] [.c (.s true 7 (((joinTail b f t).getD []).map eLEnt)), .c (.v (.bool ((joinTail b f t).isSome)))] := by
  refine E.Fn.ev (n := 55) mdG false mix Go.Proofs.Tryz.func206 rfl (by simp [Go.Proofs.Tryz.f206]) Go.Proofs.Tryz.ntmps206 (by simp) (by kernel_rfl) (rs := [.tmp 6, .tmp 7]) (tys := [64, 4]) rfl rfl (by simp [finOK, A.ts, OWN, ownE, ownT]) (by simp [resOK, A.ts, OWN, ownE, ownT, DE]) ?_
  simp only [go_sem]
  repeat' (first
    | simp only [IJS]
    | (refine E.CALL.use (concatE2_c b _ ?_) ?_ <;> (try simp only [go_sem]))
    | (refine E.CALL.use (isLog_i _ ?_) ?_ <;> (try simp only [go_sem]))
    | (refine E.CALL.use (isTail_i _ _ ?_) ?_ <;> (try simp only [go_sem]))
    | (refine E.CALL.use (eqE_c _ _ ?_ ?_) ?_ <;> (try simp only [go_sem]))
    | (refine E.GB.use (fun h => ?_) (fun h => ?_) <;> (simp only [go_sem, h]) <;> (try simp only [HFS] at h))
    | exact E.INDEP.mk2 (by kernel_rfl)
    | apply And.intro
    | omega
    | (simp only [List.length_take, List.length_drop, List.length_append, List.length_set, List.length_cons, List.length_nil]; omega)
    | refine congrArg (List.map _) ?_
    | (have q := isTail_of (f := f) (t := t) (by assumption); have q2 := isLog_len (l := b) (by assumption); omega; done)
    | (have q := isTail_of (f := f) (t := t) (by assumption); have q2 := isLog_len (l := b) (by assumption); simp only [List.length_take, List.length_drop, List.length_append]; omega; done)
    | (exact getD_none (joinTail_none (.inl (by assumption))); done)
    | (exact isS_none (joinTail_none (.inl (by assumption))); done)
    | (exact getD_none (joinTail_none (.inr (.inl (by assumption)))); done)
    | (exact isS_none (joinTail_none (.inr (.inl (by assumption)))); done)
    | (exact getD_none (joinTail_none (.inr (.inr (by omega)))); done)
    | (exact isS_none (joinTail_none (.inr (.inr (by omega)))); done)
    | (exact getD_none (joinTail_n1 (by assumption) (by assumption) (by omega) (.inl (by assumption))); done)
    | (exact getD_none (joinTail_n1 (by assumption) (by assumption) (by omega) (.inr (by assumption))); done)
    | (exact isS_none (joinTail_n1 (by assumption) (by assumption) (by omega) (.inl (by assumption))); done)
    | (exact isS_none (joinTail_n1 (by assumption) (by assumption) (by omega) (.inr (by assumption))); done)
    | (rw [joinTail_y1 (by assumption) (by assumption) (by omega) (by assumption) (by assumption)] <;> rfl; done)
    | fail)
end
section
attribute [local go_sem] mdG_eq mdM toNat_pred setI List.length_set eLI_eq eLE_eq
theorem inst_i (s : Srv) (c : Conf) (id : Int) (l : List LEnt) (hB : SrvB s) (hX : ConfB c) (hl : l.length ≤ 1048576) : Fn Go.Proofs.Tryz.prog 58 [.a (eSrv false s), .a (eConf false c), .c (.v (vi id)), .c (.s false 7 (l.map eLEnt))] [.a [.d, .d, .d, .d, .d, .d, .d, .d, .d, .d, .d, .d], .a [.d, .d, .d, .d], .c .d, .c .d] [.a (eSrv true ((install s c id l).1)), .c (.v (.bool ((install s c id l).2)))] := by
  refine E.Fn.ev (n := 77) mdG false mix Go.Proofs.Tryz.func58 rfl (by simp [Go.Proofs.Tryz.f58]) Go.Proofs.Tryz.ntmps58 (by simp) (by kernel_rfl) (rs := [.cell 8 66, .tmp 9]) (tys := [66, 4]) rfl rfl (by simp [finOK, A.ts, OWN, ownE, ownT]) (by simp [resOK, A.ts, OWN, ownE, ownT, DE]) ?_
  simp only [go_sem]
  repeat' (first
    | simp only [IJS]
    | (refine E.CALL.use (role_i_B _ _ ?_) ?_ <;> (try simp only [go_sem]))
    | (refine E.CALL.use (isLog_i _ ?_) ?_ <;> (try simp only [go_sem]))
    | (refine E.CALL.use (in_i _ _ _) ?_ <;> (try simp only [go_sem]))
    | (refine E.CALL.use (lastE_i _ ?_) ?_ <;> (try simp only [go_sem]))
    | (refine E.CALL.use (hasNew_i _ ?_) ?_ <;> (try simp only [go_sem]))
    | (refine E.CALL.use (copyS_i_B _ ?_) ?_ <;> (try simp only [go_sem]))
    | (refine E.CALL.use (copyC_i_B _ ?_) ?_ <;> (try simp only [go_sem]))
    | (refine E.CALL.use (cloneE_c _ ?_) ?_ <;> (try simp only [go_sem]))
    | (refine E.CALL.use (cutTail_i _ ?_) ?_ <;> (try simp only [go_sem]))
    | (refine E.GB.use (fun h => ?_) (fun h => ?_) <;> (simp only [go_sem, h]) <;> (try simp only [HFS] at h))
    | exact E.INDEP.mk2 (by kernel_rfl)
    | apply And.intro
    | omega
    | refine congrArg (List.map _) ?_
    | (rw [inst_no (.inl (by assumption))] <;> rfl; done)
    | (rw [inst_no (.inr (.inl (by assumption)))] <;> rfl; done)
    | (rw [inst_no (.inr (.inr (.inl (by assumption))))] <;> rfl; done)
    | (rw [inst_no (.inr (.inr (.inr (.inl (by assumption)))))] <;> rfl; done)
    | (rw [inst_no (.inr (.inr (.inr (.inr (.inr ⟨by assumption, by assumption⟩)))))] <;> rfl; done)
    | (rw [inst_no (.inr (.inr (.inr (.inr (.inl (by omega))))))] <;> rfl; done)
    | (rw [inst_w (by assumption) (by assumption) (by assumption) (by assumption) (by omega) (by (first | assumption | omega | (right; assumption) | (left; assumption))) (by assumption)] <;> first | rfl | exact cutE1 l (by assumption) | exact cutE2 l (by assumption); done)
    | (rw [inst_r (by assumption) (by assumption) (by assumption) (by assumption) (by omega) (by (first | assumption | omega | (right; assumption) | (left; assumption))) (by assumption)] <;> rfl; done)
    | fail)
theorem inst_s (s : Srv) (c : Conf) (id : Int) (l : List LEnt) (hB : SrvB s) (hX : ConfB c) (hl : l.length ≤ 1048576) : Fn Go.Proofs.Tryz.prog 38 [.a (eSrv false s), .a (eConf false c), .c (.v (vi id)), .c (.s false 7 (l.map eLEnt))] [.a [.d, .d, .d, .d, .d, .d, .d, .d, .d, .d, .d, .d], .a [.d, .d, .d, .d], .c .d, .c .d] [.a (eSrv true ((install s c id l).1)), .c (.v (.bool ((install s c id l).2)))] := by
  refine E.Fn.ev (n := 81) mdG false mix Go.Proofs.Tryz.func38 rfl (by simp [Go.Proofs.Tryz.f38]) Go.Proofs.Tryz.ntmps38 (by simp) (by kernel_rfl) (rs := [.cell 8 66, .tmp 9]) (tys := [66, 4]) rfl rfl (by simp [finOK, A.ts, OWN, ownE, ownT]) (by simp [resOK, A.ts, OWN, ownE, ownT, DE]) ?_
  simp only [go_sem]
  repeat' (first
    | simp only [IJS]
    | (refine E.CALL.use (role_s_B _ _ ?_) ?_ <;> (try simp only [go_sem]))
    | (refine E.CALL.use (isLog_s _ ?_) ?_ <;> (try simp only [go_sem]))
    | (refine E.CALL.use (in_s _ _ _) ?_ <;> (try simp only [go_sem]))
    | (refine E.CALL.use (lastE_s _ ?_) ?_ <;> (try simp only [go_sem]))
    | (refine E.CALL.use (hasNew_s _ ?_) ?_ <;> (try simp only [go_sem]))
    | (refine E.CALL.use (copyS_s_B _ ?_) ?_ <;> (try simp only [go_sem]))
    | (refine E.CALL.use (copyC_s_B _ ?_) ?_ <;> (try simp only [go_sem]))
    | (refine E.CALL.use (copyL_s _ ?_) ?_ <;> (try simp only [go_sem]))
    | (refine E.GB.use (fun h => ?_) (fun h => ?_) <;> (simp only [go_sem, h]) <;> (try simp only [HFS] at h))
    | exact E.INDEP.mk2 (by kernel_rfl)
    | apply And.intro
    | omega
    | (simp only [List.length_take, List.length_drop, List.length_append, List.length_set, List.length_cons, List.length_nil]; omega)
    | refine congrArg (List.map _) ?_
    | (rw [inst_no (.inl (by assumption))] <;> rfl; done)
    | (rw [inst_no (.inr (.inl (by assumption)))] <;> rfl; done)
    | (rw [inst_no (.inr (.inr (.inl (by assumption))))] <;> rfl; done)
    | (rw [inst_no (.inr (.inr (.inr (.inl (by assumption)))))] <;> rfl; done)
    | (rw [inst_no (.inr (.inr (.inr (.inr (.inr ⟨by assumption, by assumption⟩)))))] <;> rfl; done)
    | (rw [inst_no (.inr (.inr (.inr (.inr (.inl (by omega))))))] <;> rfl; done)
    | (rw [inst_w (by assumption) (by assumption) (by assumption) (by assumption) (by omega) (by (first | assumption | omega | (right; assumption) | (left; assumption))) (by assumption)] <;> first | rfl | exact cutE1 l (by assumption) | exact cutE2 l (by assumption); done)
    | (rw [inst_r (by assumption) (by assumption) (by assumption) (by assumption) (by omega) (by (first | assumption | omega | (right; assumption) | (left; assumption))) (by assumption)] <;> rfl; done)
    | fail)
end
end Go.Abs

/- Contracts of functions of the program, over the abstract machine, and facts for them. No condition. -/
import Derived.Test.YtedbdcjpdamhcaaGreatFacts
import Derived.Test.YtedbdcjpdamhcaaGreatPure17
import Derived.Test.YtedbdcjpdamhcaaGreatQ13
import Derived.Test.YtedbdcjpdamhcaaGreatQ3
import Derived.Test.YtedbdcjpdamhcaaGreatQ4
import Derived.Test.YtedbdcjpdamhcaaGreatQ6
import Derived.Test.YtedbdcjpdamhcaaGreatQ8
set_option linter.unusedVariables false
set_option linter.unusedSimpArgs false
set_option linter.unnecessarySimpa false
set_option linter.constructorNameAsVariable false
set_option maxHeartbeats 4000000
set_option maxRecDepth 100000
namespace Go.Abs
open Go
attribute [local go_sem ↓] E.argsA_h E.wq_ret E.wq_req E.wq_bad E.wq_call E.wq_get E.wq_getO E.wq_getOs E.wq_getPs E.wq_fresh E.wq_anyNil E.wq_getR0 E.wq_getR E.wq_ixM E.wq_n E.wq_g E.wq_gn E.ev_skip E.ev_region E.ev_draw E.ev_seq E.ev_cond E.ev_block E.ev_exit E.ev_ret E.sq_n E.sq_e E.sq_r E.bl_n E.bl_e E.bl_r E.lp_n E.lp_e E.lp_r E.fk_n E.fk_r E.q_move E.q_assign E.q_pick E.q_bin E.q_binw E.q_un E.q_alloc E.q_box E.q_build E.q_buildS E.q_makeS E.q_load E.q_store E.q_nilCheck E.q_slice E.q_fieldAddr E.q_field E.q_indexAddr E.q_extract E.q_makeFunc E.q_call E.q_callT E.q_len E.q_append E.q_min E.q_max E.q_convert E.q_cap E.q_clear appendIM appendZM E.b_add E.b_sub E.b_mul E.b_eql E.b_neq E.b_lss E.b_leq E.b_gtr E.b_geq E.GO_tmp E.GO_int E.GO_bool E.GO_str E.GO_nil E.GO_func E.GOs_nil E.GOs_cons E.GPs_nil E.GPs_cons E.RW_nil E.RW_cons E.dstAt_0 E.dstAt_s E.keepL_nil E.keepL_s E.keepL_k E.rmN_nil E.rmN_cons E.memN_nil E.memN_cons E.memK_nil E.memK_cons E.ovl_nil E.ovl_kk E.ovl_sk E.ovl_ks E.ovl_ss ofL_s ofL_sk ofL_ks ofL_k ofL_nil E.CO_tmp E.CO_bool
attribute [local go_sem] E.RM_nil E.RM_cons E.kd_k E.sbr_eq E.s3_nil E.s3_s E.s3_k E.vr_c E.vr_a E.vr_p E.vr_q E.vr_t E.vr_f E.vr_u E.cr_r E.cr_v E.cr_b E.cr_n E.cr_u E.crs_nil E.crs_cons E.renK_nil E.renK_cons keysVs V.keys C.keys keysCs E.RG_nil E.RG_cons E.GV_v E.GB_true E.GB_false E.GX_b E.GG_t E.GG_f E.GG_u E.GU_some E.IX_0 E.IX_s E.CX_s E.FR_none E.EN_e E.GVB_b E.b_boolM E.b_nilM E.b_strM E.b_aggM
attribute [local go_sem] List.cons_append List.nil_append List.append_nil List.length_cons List.length_nil List.length_map List.length_append callM E.argsH_nil E.argsH_cons E.argH_c E.argH_a E.argH_f E.cellsH_nil E.cellsH_cons E.cellH_v E.cellH_b E.cellH_n E.cellH_nt E.cellH_u E.cellH_rt E.cellH_rf capsA capA callable backs backT resVs resV resC tupV lenV intV boolV getE getO entryL entryKs A.ts entryV entryC entryCs entryCap List.map_cons List.map_nil E.cut_n E.cut_r E.cutM plainL A.capOK szEs szE szT SZ whole toB toC List.drop_zero List.take_zero List.take_succ_cons List.drop_succ_cons resultsM resultM outM outM1 convs conv finAs finA finT finTs Int.toNat_natCast A.plain T.plain List.isEmpty_nil List.isEmpty_cons Bool.or_true Bool.true_or Bool.and_self List.getElem?_cons_zero List.getElem?_cons_succ Option.bind_some Option.bind_none Option.bind Nat.zero_add Nat.add_zero OWN BOR ONE SCAL DE ETA E.take_rest Int.toNat_zero E.take_map E.drop_map E.take_len1 List.take_length E.app_map Int.natCast_zero Int.sub_zero Int.toNat_sub partCells V.cells convsL appendM srcM E.scalEs_nil E.scalEs_cons E.oneEs_nil E.oneEs_cons List.all_cons List.all_nil T.one Bool.and_true gone ownEs ownE ownT borEs borE borT setRow splice List.set_cons_zero List.set_cons_succ optI getOpt sliceM ptrTo app_ofL T.isV Value.oneCell' fillC zeroC spliceC allV eqVs eqV minV maxV setAt setCell holed List.dropLast List.getLast?_singleton Option.getD_some Option.isSome_some Option.isSome_none Bool.and_false Bool.true_and Bool.false_and Option.map_some Option.map_none false_or true_or or_true rowAt cellAt E.constV_nil E.constV_int E.constV_bool E.constV_str E.setCell_set E.setCell_len setRow setAt List.dropLast_cons_cons List.dropLast_singleton List.getLast?_cons_cons
attribute [local go_sem_proc ↓] reduceIte
attribute [local go_sem_proc] Nat.reduceEqDiff reduceCtorEq Nat.reduceAdd Nat.reduceMul
attribute [local irreducible] E.argsH E.argH E.cellsH E.cellH E.GV E.GB E.GX E.GG E.GU E.IX E.CX E.RW E.FR E.EN E.CALL E.GO E.GOs E.GPs E.GVB E.KD E.RM E.RG E.CO E.WQ E.EV E.SQ E.BL E.LP E.FK E.S3 E.RK E.NEXT E.NQ E.INDEP
section
attribute [local go_sem] mdM toNat_pred
theorem isML_s (m : MLog) (hml : m.confs.length ≤ 1048576) (hm : ∀ c ∈ m.confs, c.reps.length ≤ 1048576 ∧ c.wits.length ≤ 1048576) : Fn Go.Proofs.Tryz.prog 58 [.a (eMLog false m)] [.a [.d, .d]] [.c (.v (.bool (isML m)))] := by
  refine E.Fn.ev (n := 35) mdM false mix Go.Proofs.Tryz.func58 rfl (by simp [Go.Proofs.Tryz.f58]) Go.Proofs.Tryz.ntmps58 (by simp) (by kernel_rfl) (rs := [.tmp 2]) (tys := [4]) rfl rfl (by simp [finOK, A.ts, OWN, ownE, ownT]) (by simp [resOK, A.ts, OWN, ownE, ownT, DE]) ?_
  simp only [go_sem]
  repeat' (first
    | simp only [IJS]
    | (refine E.CALL.use (validConf_s _ ?_ ?_) ?_ <;> (try simp only [go_sem]))
    | (refine E.CALL.use (in_s _ _ _) ?_ <;> (try simp only [go_sem]))
    | (refine E.GB.use (fun h => ?_) (fun h => ?_) <;> (simp only [go_sem, h]) <;> (try simp only [HFS] at h))
    | exact E.RK.mk (by kernel_rfl)
    | (refine E.IX_map ?_ (fun hx => ?_); rotate_left; simp only [go_sem])
    | (refine E.loopR (ι := Nat) 2 rfl (fun i => [(.s 3, .v (.c (.v (vi i))))]) [1, 29, 30, 31, 32, 33, 34] [] [] (fun i => (m.confs).length - i) (fun i => i ≤ (m.confs).length ∧ (confsGo i (m.confs.drop i) && inR m.act 0 m.confs.length) = isML m) mix (by kernel_rfl) 0 ?_ ?_ (fun i ⟨hi, hR⟩ => ?_); all_goals (try simp (maxSteps := 900000) only [go_sem]); all_goals (try dsimp only at hi hR))
    | (refine E.NEXT.use [] (i + 1) ?_ ?_ ?_; rotate_left 2; focus (simp (maxSteps := 900000) only [go_sem]; (repeat' (first | with_reducible rfl | exact E.RK.mk (by kernel_rfl) | apply And.intro | (push_cast; with_reducible rfl) | (refine E.int_c ?_; omega) | (simp only [go_sem]; done) | (rw [List.map_append]; rfl) | (simp; done) | (simp only [*]; done) | fail)); done))
    | apply And.intro
    | omega
    | (exact (hm _ (E.at_mem (by omega))).1; done)
    | (exact (hm _ (E.at_mem (by omega))).2; done)
    | (rw [drop_at (l := m.confs) (i := i) (by omega)] at hR; rw [← hR]; simp [confsGo, *]; done)
    | (rw [E.drop_end (l := m.confs) (i := i) (by omega)] at hR; rw [← hR]; simp [confsGo]; done)
    | (rfl; done)
    | fail)
theorem copyC_s (c : Conf) (h1 : c.reps.length ≤ 1048576) (h2 : c.wits.length ≤ 1048576) : Fn Go.Proofs.Tryz.prog 103 [.a (eConf false c)] [.a [.d, .d, .d, .d]] [.a (eConf true (c))] := by
  refine E.Fn.ev (n := 16) mdM false mix Go.Proofs.Tryz.func103 rfl (by simp [Go.Proofs.Tryz.f103]) Go.Proofs.Tryz.ntmps103 (by simp) (by kernel_rfl) (rs := [.cell 2 34]) (tys := [34]) rfl rfl (by simp [finOK, A.ts, OWN, ownE, ownT]) (by simp [resOK, A.ts, OWN, ownE, ownT, DE]) ?_
  simp only [go_sem]
  repeat' (first
    | simp only [IJS]
    | exact E.INDEP.mk2 (by kernel_rfl)
    | apply And.intro
    | omega
    | fail)
theorem confAt_s (m : MLog) (e : Int) (hml : m.confs.length ≤ 1048576) (hm : ∀ c ∈ m.confs, c.reps.length ≤ 1048576 ∧ c.wits.length ≤ 1048576) : Fn Go.Proofs.Tryz.prog 63 [.a (eMLog false m), .c (.v (vi e))] [.a [.d, .d], .c .d] [.a (eConf true ((confAt m e).1)), .c (.v (.bool ((confAt m e).2)))] := by
  refine E.Fn.ev (n := 25) mdM false mix Go.Proofs.Tryz.func63 rfl (by simp [Go.Proofs.Tryz.f63]) Go.Proofs.Tryz.ntmps63 (by simp) (by kernel_rfl) (rs := [.cell 4 34, .tmp 5]) (tys := [34, 4]) rfl rfl (by simp [finOK, A.ts, OWN, ownE, ownT]) (by simp [resOK, A.ts, OWN, ownE, ownT, DE]) ?_
  simp only [go_sem]
  repeat' (first
    | simp only [IJS]
    | (refine E.CALL.use (isML_s _ ?_ ?_) ?_ <;> (try simp only [go_sem]))
    | (refine E.CALL.use (in_s _ _ _) ?_ <;> (try simp only [go_sem]))
    | (refine E.CALL.use (copyC_s _ ?_ ?_) ?_ <;> (try simp only [go_sem]))
    | (refine E.GB.use (fun h => ?_) (fun h => ?_) <;> (simp only [go_sem, h]) <;> (try simp only [HFS] at h))
    | (refine E.IX_map ?_ (fun hx => ?_); rotate_left; simp only [go_sem])
    | apply And.intro
    | omega
    | refine congrArg (List.map _) ?_
    | (have q := inR_of (x := e) (by assumption); omega; done)
    | (have q := inR_of (x := e) (by assumption); exact (hm _ (E.at_mem (by omega))).1; done)
    | (have q := inR_of (x := e) (by assumption); exact (hm _ (E.at_mem (by omega))).2; done)
    | (simp [confAt, noConf, *]; done)
    | fail)
theorem lastAct_s (m : MLog) (hml : m.confs.length ≤ 1048576) (hm : ∀ c ∈ m.confs, c.reps.length ≤ 1048576 ∧ c.wits.length ≤ 1048576) : Fn Go.Proofs.Tryz.prog 20 [.a (eMLog false m)] [.a [.d, .d]] [.a (eConf true ((lastAct m).1)), .c (.v (.bool ((lastAct m).2)))] := by
  refine E.Fn.ev (n := 15) mdM false mix Go.Proofs.Tryz.func20 rfl (by simp [Go.Proofs.Tryz.f20]) Go.Proofs.Tryz.ntmps20 (by simp) (by kernel_rfl) (rs := [.cell 2 34, .tmp 3]) (tys := [34, 4]) rfl rfl (by simp [finOK, A.ts, OWN, ownE, ownT]) (by simp [resOK, A.ts, OWN, ownE, ownT, DE]) ?_
  simp only [go_sem]
  repeat' (first
    | simp only [IJS]
    | (refine E.CALL.use (confAt_s _ _ ?_ ?_) ?_ <;> (try simp only [go_sem]))
    | apply And.intro
    | omega
    | refine congrArg (List.map _) ?_
    | (simp [lastAct]; done)
    | fail)
end
section
attribute [local go_sem] mdM toNat_pred
theorem confAt_bd {m : MLog} {e : Int} (hm : ∀ x ∈ m.confs, x.reps.length ≤ 1048576 ∧ x.wits.length ≤ 1048576) : (confAt m e).1.reps.length ≤ 1048576 ∧ (confAt m e).1.wits.length ≤ 1048576 := by
  unfold confAt
  split
  · rename_i h
    simp only [Bool.and_eq_true, inR_iff] at h
    exact hm _ (E.at_mem (by omega))
  · exact ⟨Nat.zero_le _, Nat.zero_le _⟩
theorem validClu_s (c : Clu) (hs : ∀ s ∈ c.srvs, (s.conf.reps.length ≤ 1048576 ∧ s.conf.wits.length ≤ 1048576) ∧ s.log.length ≤ 1048576 ∧ s.learned.length ≤ 1048576) (hsl : c.srvs.length ≤ 1048576) (hsd : c.sides.length ≤ 1048576) (hml : c.mast.confs.length ≤ 1048576) (hm : ∀ x ∈ c.mast.confs, x.reps.length ≤ 1048576 ∧ x.wits.length ≤ 1048576) (hpl : c.plcs.length ≤ 1048576) : Fn Go.Proofs.Tryz.prog 17 [.a (eClu false c)] [.a [.d, .d, .d, .d, .d, .d, .d, .d, .d, .d]] [.c (.v (.bool (validClu c)))] := by
  refine E.Fn.ev (n := 123) mdM false mix Go.Proofs.Tryz.func17 rfl (by simp [Go.Proofs.Tryz.f17]) Go.Proofs.Tryz.ntmps17 (by simp) (by kernel_rfl) (rs := [.tmp 2]) (tys := [4]) rfl rfl (by simp [finOK, A.ts, OWN, ownE, ownT]) (by simp [resOK, A.ts, OWN, ownE, ownT, DE]) ?_
  simp only [go_sem]
  repeat' (first
    | simp only [IJS]
    | (refine E.CALL.use (in_s _ _ _) ?_ <;> (try simp only [go_sem]))
    | (refine E.CALL.use (areSides_s _ ?_) ?_ <;> (try simp only [go_sem]))
    | (refine E.CALL.use (isML_s _ ?_ ?_) ?_ <;> (try simp only [go_sem]))
    | (refine E.CALL.use (isLease_s _) ?_ <;> (try simp only [go_sem]))
    | (refine E.CALL.use (arePlc_s _ ?_) ?_ <;> (try simp only [go_sem]))
    | (refine E.CALL.use (validSrv_s _ _ ?_ ?_ ?_ ?_) ?_ <;> (try simp only [go_sem]))
    | (refine E.CALL.use (lastE_s _ ?_) ?_ <;> (try simp only [go_sem]))
    | (refine E.CALL.use (confAt_s _ _ ?_ ?_) ?_ <;> (try simp only [go_sem]))
    | (refine E.CALL.use (none_s _ ?_ ?_) ?_ <;> (try simp only [go_sem]))
    | (refine E.CALL.use (eqConf_s _ _ ?_ ?_ ?_ ?_) ?_ <;> (try simp only [go_sem]))
    | (refine E.GB.use (fun h => ?_) (fun h => ?_) <;> (simp only [go_sem, h]) <;> (try simp only [HFS] at h))
    | exact E.INDEP.mk2 (by kernel_rfl)
    | exact E.RK.mk (by kernel_rfl)
    | (refine E.IX_map ?_ (fun hx => ?_); rotate_left; simp only [go_sem])
    | (refine E.loopR (ι := Nat) 4 rfl (fun i => [(.s 3, .v (.c (.v (vi i))))]) [1] [] [] (fun i => (c.srvs).length - i) (fun i => i ≤ (c.srvs).length ∧ (inR c.now 0 999 && ((c.srvs.length : Int) == 5) && areSides c.sides && isML c.mast && isLease c.lse && arePlaces c.plcs && inR c.mup 0 3 && decide (c.lse.epoch ≤ c.mast.act) && srvsOK c i (c.srvs.drop i)) = validClu c) mix (by kernel_rfl) 0 ?_ ?_ (fun i ⟨hi, hR⟩ => ?_); all_goals (try simp (maxSteps := 900000) only [go_sem]); all_goals (try dsimp only at hi hR))
    | (refine E.NEXT.use [] (i + 1) ?_ ?_ ?_; rotate_left 2; focus (simp (maxSteps := 900000) only [go_sem]; (repeat' (first | with_reducible rfl | exact E.RK.mk (by kernel_rfl) | apply And.intro | (push_cast; with_reducible rfl) | (refine E.int_c ?_; omega) | (simp only [go_sem]; done) | (rw [List.map_append]; rfl) | (simp; done) | (simp only [*]; done) | fail)); done))
    | apply And.intro
    | omega
    | (exact (hs _ (E.at_mem (by omega))).1.1; done)
    | (exact (hs _ (E.at_mem (by omega))).1.2; done)
    | (exact (hs _ (E.at_mem (by omega))).2.1; done)
    | (exact (hs _ (E.at_mem (by omega))).2.2; done)
    | (exact (confAt_bd hm).1; done)
    | (exact (confAt_bd hm).2; done)
    | (rfl; done)
    | (rw [E.drop_end (l := c.srvs) (i := i) (by omega)] at hR; rw [← hR]; simp_all [srvsOK]; done)
    | (rw [drop_at (l := c.srvs) (i := i) (by omega)] at hR; rw [← hR]; simp_all [srvsOK]; done)
    | (rw [drop_at (l := c.srvs) (i := i) (by omega)] at hR; have h9 : decide ((at' c.srvs i).epoch ≤ c.mast.confs.length) = false := (by simp; omega); rw [← hR]; simp [srvsOK, h9]; done)
    | (rw [drop_at (l := c.srvs) (i := i) (by omega)] at hR; have h9 : decide (lastE (at' c.srvs i).learned ≤ c.mast.act) = false := (by simp; omega); rw [← hR]; simp [srvsOK, h9]; done)
    | (rw [drop_at (l := c.srvs) (i := i) (by omega)] at hR; have h9 : decide ((at' c.srvs i).conf.epoch ≤ c.mast.act) = false := (by simp; omega); rw [← hR]; simp [srvsOK, h9, *]; done)
    | (have h9 : decide (c.lse.epoch ≤ c.mast.act) = false := (by simp; omega); simp [validClu, h9]; done)
    | (simp_all [validClu]; done)
    | fail)
end
section
attribute [local go_sem] mdG_eq mdM toNat_pred setI List.length_set eLI_eq eLE_eq
theorem eqConf_i_B (a : Conf) (b : Conf) (hA : ConfB a) (hB : ConfB b) : Fn Go.Proofs.Tryz.prog 82 [.a (eConf false a), .a (eConf false b)] [.a [.d, .d, .d, .d], .a [.d, .d, .d, .d]] [.c (.v (.bool (decide (a = b))))] := eqConf_i a b hA.r hA.w hB.r hB.w
theorem none_s_B (c : Conf) (hB : ConfB c) : Fn Go.Proofs.Tryz.prog 23 [.a (eConf false c)] [.a [.d, .d, .d, .d]] [.c (.v (.bool (decide (c = noConf))))] := none_s c hB.r hB.w
theorem lastAct_s_B (m : MLog) (hM : MLB m) : Fn Go.Proofs.Tryz.prog 20 [.a (eMLog false m)] [.a [.d, .d]] [.a (eConf true ((lastAct m).1)), .c (.v (.bool ((lastAct m).2)))] := lastAct_s m hM.len hM.hm
theorem validClu_s_B (c : Clu) (hB : CluB c) : Fn Go.Proofs.Tryz.prog 17 [.a (eClu false c)] [.a [.d, .d, .d, .d, .d, .d, .d, .d, .d, .d]] [.c (.v (.bool (validClu c)))] := validClu_s c hB.hs hB.sl hB.sd hB.m.len hB.m.hm hB.pl
theorem role_i_B (c : Conf) (id : Int) (hB : ConfB c) : Fn Go.Proofs.Tryz.prog 113 [.a (eConf false c), .c (.v (vi id))] [.a [.d, .d, .d, .d], .c .d] [.c (.v (vi (roleOf c id)))] := role_i c id hB.r hB.w
theorem isML_i_B (m : MLog) (hM : MLB m) : Fn Go.Proofs.Tryz.prog 77 [.a (eMLog false m)] [.a [.d, .d]] [.c (.v (.bool (isML m)))] := isML_i m hM.len hM.hm
theorem confAt_i_B (m : MLog) (e : Int) (hM : MLB m) : Fn Go.Proofs.Tryz.prog 83 [.a (eMLog false m), .c (.v (vi e))] [.a [.d, .d], .c .d] [.a (eConf true ((confAt m e).1)), .c (.v (.bool ((confAt m e).2)))] := confAt_i m e hM.len hM.hm
theorem lastAct_i_B (m : MLog) (hM : MLB m) : Fn Go.Proofs.Tryz.prog 36 [.a (eMLog false m)] [.a [.d, .d]] [.a (eConf true ((lastAct m).1)), .c (.v (.bool ((lastAct m).2)))] := lastAct_i m hM.len hM.hm
end
end Go.Abs

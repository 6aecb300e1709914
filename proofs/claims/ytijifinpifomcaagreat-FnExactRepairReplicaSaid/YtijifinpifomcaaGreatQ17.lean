/- Contracts of functions of the program, over the abstract machine, and facts for them. No condition. -/
import Derived.Test.YtijifinpifomcaaGreatFacts
import Derived.Test.YtijifinpifomcaaGreatPure19
import Derived.Test.YtijifinpifomcaaGreatQ10
import Derived.Test.YtijifinpifomcaaGreatQ13
import Derived.Test.YtijifinpifomcaaGreatQ3
import Derived.Test.YtijifinpifomcaaGreatQ8
import Derived.Test.YtijifinpifomcaaGreatQ9
set_option linter.unusedVariables false
set_option linter.unusedSimpArgs false
set_option linter.unnecessarySimpa false
set_option linter.constructorNameAsVariable false
set_option maxHeartbeats 4000000
set_option maxRecDepth 100000
namespace Go.Abs
open Go
attribute [local go_sem ↓] E.argsA_h E.wq_ret E.wq_req E.wq_bad E.wq_call E.wq_get E.wq_getO E.wq_getOs E.wq_getPs E.wq_fresh E.wq_anyNil E.wq_getR0 E.wq_getR E.wq_ixM E.wq_n E.wq_g E.wq_gn E.ev_skip E.ev_region E.ev_draw E.ev_seq E.ev_cond E.ev_block E.ev_exit E.ev_ret E.sq_n E.sq_e E.sq_r E.bl_n E.bl_e E.bl_r E.lp_n E.lp_e E.lp_r E.fk_n E.fk_r E.q_move E.q_assign E.q_pick E.q_bin E.q_binw E.q_un E.q_alloc E.q_box E.q_build E.q_buildS E.q_makeS E.q_load E.q_store E.q_nilCheck E.q_slice E.q_fieldAddr E.q_field E.q_indexAddr E.q_extract E.q_makeFunc E.q_call E.q_callT E.q_len E.q_append E.q_min E.q_max E.q_convert E.q_cap E.q_clear appendIM appendZM E.b_add E.b_sub E.b_mul E.b_eql E.b_neq E.b_lss E.b_leq E.b_gtr E.b_geq E.GO_tmp E.GO_int E.GO_bool E.GO_str E.GO_nil E.GO_func E.GOs_nil E.GOs_cons E.GPs_nil E.GPs_cons E.RW_nil E.RW_cons E.dstAt_0 E.dstAt_s E.keepL_nil E.keepL_s E.keepL_k E.rmN_nil E.rmN_cons E.memN_nil E.memN_cons E.memK_nil E.memK_cons E.ovl_nil E.ovl_kk E.ovl_sk E.ovl_ks E.ovl_ss ofL_s ofL_sk ofL_ks ofL_k ofL_nil E.CO_tmp E.CO_bool
attribute [local go_sem] E.RM_nil E.RM_cons E.kd_k E.sbr_eq E.s3_nil E.s3_s E.s3_k E.vr_c E.vr_a E.vr_p E.vr_q E.vr_t E.vr_f E.vr_u E.cr_r E.cr_v E.cr_b E.cr_n E.cr_u E.crs_nil E.crs_cons E.renK_nil E.renK_cons keysVs V.keys C.keys keysCs E.RG_nil E.RG_cons E.GV_v E.GB_true E.GB_false E.GX_b E.GG_t E.GG_f E.GG_u E.GU_some E.IX_0 E.IX_s E.CX_s E.FR_none E.EN_e E.GVB_b E.b_boolM E.b_nilM E.b_strM E.b_aggM
attribute [local go_sem] List.cons_append List.nil_append List.append_nil List.length_cons List.length_nil List.length_map List.length_append callM E.argsH_nil E.argsH_cons E.argH_c E.argH_a E.argH_f E.argH_p ptrH_s E.cellsH_nil E.cellsH_cons E.cellH_v E.cellH_b E.cellH_n E.cellH_nt E.cellH_u E.cellH_rt E.cellH_rf capsA capA callable backs backT resVs resV resC tupV lenV intV boolV getE getO entryL entryKs A.ts entryV entryC entryCs entryCap List.map_cons List.map_nil E.cut_n E.cut_r E.cutM plainL A.lastOK T.lastOK Bool.false_or A.capOK szEs szE szT SZ whole toB toC List.drop_zero List.take_zero List.take_succ_cons List.drop_succ_cons resultsM resultM outM outM1 convs conv finAs finA finT finTs Int.toNat_natCast A.plain T.plain List.isEmpty_nil List.isEmpty_cons Bool.or_true Bool.true_or Bool.and_self List.getElem?_cons_zero List.getElem?_cons_succ Option.bind_some Option.bind_none Option.bind Nat.zero_add Nat.add_zero OWN BOR ONE SCAL DE ETA E.take_rest Int.toNat_zero E.take_map E.drop_map E.take_len1 List.take_length E.app_map Int.natCast_zero Int.sub_zero Int.toNat_sub partCells V.cells convsL appendM srcM E.scalEs_nil E.scalEs_cons E.oneEs_nil E.oneEs_cons List.all_cons List.all_nil T.one Bool.and_true gone ownEs ownE ownT borEs borE borT setRow splice List.set_cons_zero List.set_cons_succ optI getOpt sliceM ptrTo app_ofL T.isV Value.oneCell' fillC zeroC spliceC allV eqVs eqV minV maxV setAt setCell holed List.dropLast List.getLast?_singleton Option.getD_some Option.isSome_some Option.isSome_none Bool.and_false Bool.true_and Bool.false_and Option.map_some Option.map_none false_or true_or or_true rowAt cellAt E.constV_nil E.constV_int E.constV_bool E.constV_str E.setCell_set E.setCell_len setRow setAt List.dropLast_cons_cons List.dropLast_singleton List.getLast?_cons_cons
attribute [local go_sem_proc ↓] reduceIte
attribute [local go_sem_proc] Nat.reduceEqDiff reduceCtorEq Nat.reduceAdd Nat.reduceMul
attribute [local irreducible] E.argsH E.argH E.cellsH E.cellH E.GV E.GB E.GX E.GG E.GU E.IX E.CX E.RW E.FR E.EN E.CALL E.GO E.GOs E.GPs E.GVB E.KD E.RM E.RG E.CO E.WQ E.EV E.SQ E.BL E.LP E.FK E.S3 E.RK E.NEXT E.NQ E.INDEP
section
attribute [local go_sem] mdG_eq mdM toNat_pred setI List.length_set eLI_eq eLE_eq
theorem validClu_i (c : Clu) (hB : CluB c) : Fn Go.Proofs.Tryz.prog 135 [.a (eClu false c)] [.a [.d, .d, .d, .d, .d, .d, .d, .d, .d, .d]] [.c (.v (.bool (validClu c)))] := by
  refine E.Fn.ev (n := 118) mdG false mix Go.Proofs.Tryz.func135 rfl (by simp [Go.Proofs.Tryz.f135]) Go.Proofs.Tryz.ntmps135 (by simp) (by kernel_rfl) (rs := [.tmp 2]) (tys := [4]) rfl rfl (by simp [finOK, A.ts, OWN, ownE, ownT]) (by simp [resOK, A.ts, OWN, ownE, ownT, DE]) ?_
  simp only [go_sem]
  repeat' (first
    | simp only [IJS]
    | (refine E.CALL.use (eqConf_i_B _ noConf ?_ ?_) ?_ <;> (try simp only [go_sem]))
    | (refine E.CALL.use (in_i _ _ _) ?_ <;> (try simp only [go_sem]))
    | (refine E.CALL.use (areSides_i _ ?_) ?_ <;> (try simp only [go_sem]))
    | (refine E.CALL.use (isML_i_B _ ?_) ?_ <;> (try simp only [go_sem]))
    | (refine E.CALL.use (isLease_i _) ?_ <;> (try simp only [go_sem]))
    | (refine E.CALL.use (arePlc_i _ ?_) ?_ <;> (try simp only [go_sem]))
    | (refine E.CALL.use (validSrv_i _ _ ?_) ?_ <;> (try simp only [go_sem]))
    | (refine E.CALL.use (lastE_i _ ?_) ?_ <;> (try simp only [go_sem]))
    | (refine E.CALL.use (eqConf_i_B _ _ ?_ ?_) ?_ <;> (try simp only [go_sem]))
    | (refine E.CALL.use (confAt_i_B _ _ ?_) ?_ <;> (try simp only [go_sem]))
    | (refine E.GB.use (fun h => ?_) (fun h => ?_) <;> (simp only [go_sem, h]) <;> (try simp only [HFS] at h))
    | exact E.INDEP.mk2 (by kernel_rfl)
    | exact E.RK.mk (by kernel_rfl)
    | (refine E.IX_map ?_ (fun hx => ?_); rotate_left; simp only [go_sem])
    | (refine E.loopR (ι := Nat) 4 rfl (fun i => [(.s 59, .v (.c (.v (vi i))))]) [1, 57, 58] [] [] (fun i => (c.srvs).length - i) (fun i => i ≤ (c.srvs).length ∧ (inR c.now 0 999 && ((c.srvs.length : Int) == 5) && areSides c.sides && isML c.mast && isLease c.lse && arePlaces c.plcs && inR c.mup 0 3 && decide (c.lse.epoch ≤ c.mast.act) && srvsOK c i (c.srvs.drop i)) = validClu c) mix (by kernel_rfl) 0 ?_ ?_ (fun i ⟨hi, hR⟩ => ?_); all_goals (try simp (maxSteps := 900000) only [go_sem]); all_goals (try dsimp only at hi hR))
    | (refine E.NEXT.use [] (i + 1) ?_ ?_ ?_; rotate_left 2; focus (simp (maxSteps := 900000) only [go_sem]; (repeat' (first | with_reducible rfl | exact E.RK.mk (by kernel_rfl) | apply And.intro | (push_cast; with_reducible rfl) | (refine E.int_c ?_; omega) | (simp only [go_sem]; done) | (rw [List.map_append]; rfl) | (simp; done) | (simp only [*]; done) | fail)); done))
    | apply And.intro
    | omega
    | (exact (CluB.at (by assumption) _); done)
    | (exact (CluB.at (by assumption) _).conf; done)
    | (exact (CluB.at (by assumption) _).learned; done)
    | (exact CluB.m (by assumption); done)
    | (exact CluB.sd (by assumption); done)
    | (exact CluB.pl (by assumption); done)
    | (exact (CluB.m (by assumption)).at _; done)
    | (exact ConfB.no; done)
    | (rfl; done)
    | (rw [E.drop_end (l := c.srvs) (i := i) (by omega)] at hR; rw [← hR]; simp_all [srvsOK]; done)
    | (rw [drop_at (l := c.srvs) (i := i) (by omega)] at hR; rw [← hR]; simp_all [srvsOK]; done)
    | (rw [drop_at (l := c.srvs) (i := i) (by omega)] at hR; have h9 : decide ((at' c.srvs i).epoch ≤ c.mast.confs.length) = false := (by simp; omega); rw [← hR]; simp [srvsOK, h9]; done)
    | (rw [drop_at (l := c.srvs) (i := i) (by omega)] at hR; have h9 : decide (lastE (at' c.srvs i).learned ≤ c.mast.act) = false := (by simp; omega); rw [← hR]; simp [srvsOK, h9]; done)
    | (rw [drop_at (l := c.srvs) (i := i) (by omega)] at hR; have h9 : decide ((at' c.srvs i).conf.epoch ≤ c.mast.act) = false := (by simp; omega); rw [← hR]; simp [srvsOK, h9, *]; done)
    | (have h9 : decide (c.lse.epoch ≤ c.mast.act) = false := (by simp; omega); simp [validClu, h9]; done)
    | (simp_all [validClu]; done)
    | fail)
end
section
attribute [local go_sem] mdG_eq mdM toNat_pred setI List.length_set eLI_eq eLE_eq
theorem hasSrv_i (c : Clu) (id : Int) (hB : CluB c) : Fn Go.Proofs.Tryz.prog 99 [.a (eClu false c), .c (.v (vi id))] [.a [.d, .d, .d, .d, .d, .d, .d, .d, .d, .d], .c .d] [.c (.v (.bool (hasSrv c id)))] := by
  refine E.Fn.ev (n := 11) mdG false mix Go.Proofs.Tryz.func99 rfl (by simp [Go.Proofs.Tryz.f99]) Go.Proofs.Tryz.ntmps99 (by simp) (by kernel_rfl) (rs := [.tmp 4]) (tys := [4]) rfl rfl (by simp [finOK, A.ts, OWN, ownE, ownT]) (by simp [resOK, A.ts, OWN, ownE, ownT, DE]) ?_
  simp only [go_sem]
  repeat' (first
    | simp only [IJS]
    | (refine E.CALL.use (validClu_i _ ?_) ?_ <;> (try simp only [go_sem]))
    | (refine E.CALL.use (in_i _ _ _) ?_ <;> (try simp only [go_sem]))
    | (refine E.GB.use (fun h => ?_) (fun h => ?_) <;> (simp only [go_sem, h]) <;> (try simp only [HFS] at h))
    | apply And.intro
    | omega
    | (simp [hasSrv, *]; done)
    | fail)
theorem hasSrv_s (c : Clu) (id : Int) (hB : CluB c) : Fn Go.Proofs.Tryz.prog 90 [.a (eClu false c), .c (.v (vi id))] [.a [.d, .d, .d, .d, .d, .d, .d, .d, .d, .d], .c .d] [.c (.v (.bool (hasSrv c id)))] := by
  refine E.Fn.ev (n := 11) mdG false mix Go.Proofs.Tryz.func90 rfl (by simp [Go.Proofs.Tryz.f90]) Go.Proofs.Tryz.ntmps90 (by simp) (by kernel_rfl) (rs := [.tmp 4]) (tys := [4]) rfl rfl (by simp [finOK, A.ts, OWN, ownE, ownT]) (by simp [resOK, A.ts, OWN, ownE, ownT, DE]) ?_
  simp only [go_sem]
  repeat' (first
    | simp only [IJS]
    | (refine E.CALL.use (validClu_s_B _ ?_) ?_ <;> (try simp only [go_sem]))
    | (refine E.CALL.use (in_s _ _ _) ?_ <;> (try simp only [go_sem]))
    | (refine E.GB.use (fun h => ?_) (fun h => ?_) <;> (simp only [go_sem, h]) <;> (try simp only [HFS] at h))
    | apply And.intro
    | omega
    | (simp [hasSrv, *]; done)
    | fail)
end
section
attribute [local go_sem] mdG_eq mdM toNat_pred setI List.length_set eLI_eq eLE_eq
theorem isRep_i (s : Srv) (id : Int) (hB : SrvB s) : Fn Go.Proofs.Tryz.prog 100 [.a (eSrv false s), .c (.v (vi id))] [.a [.d, .d, .d, .d, .d, .d, .d, .d, .d, .d, .d, .d], .c .d] [.c (.v (.bool (isRep s id)))] := by
  refine E.Fn.ev (n := 10) mdG false mix Go.Proofs.Tryz.func100 rfl (by simp [Go.Proofs.Tryz.f100]) Go.Proofs.Tryz.ntmps100 (by simp) (by kernel_rfl) (rs := [.tmp 4]) (tys := [4]) rfl rfl (by simp [finOK, A.ts, OWN, ownE, ownT]) (by simp [resOK, A.ts, OWN, ownE, ownT, DE]) ?_
  simp only [go_sem]
  repeat' (first
    | simp only [IJS]
    | (refine E.CALL.use (has_i _ _ ?_) ?_ <;> (try simp only [go_sem]))
    | apply And.intro
    | omega
    | (exact (SrvB.conf (by assumption)).r; done)
    | (rfl; done)
    | fail)
theorem dataSrv_i (c : Clu) (id : Int) (hB : CluB c) : Fn Go.Proofs.Tryz.prog 43 [.a (eClu false c), .c (.v (vi id))] [.a [.d, .d, .d, .d, .d, .d, .d, .d, .d, .d], .c .d] [.c (.v (.bool (dataSrv c id)))] := by
  refine E.Fn.ev (n := 17) mdG false mix Go.Proofs.Tryz.func43 rfl (by simp [Go.Proofs.Tryz.f43]) Go.Proofs.Tryz.ntmps43 (by simp) (by kernel_rfl) (rs := [.tmp 4]) (tys := [4]) rfl rfl (by simp [finOK, A.ts, OWN, ownE, ownT]) (by simp [resOK, A.ts, OWN, ownE, ownT, DE]) ?_
  simp only [go_sem]
  repeat' (first
    | simp only [IJS]
    | (refine E.CALL.use (hasSrv_i _ _ ?_) ?_ <;> (try simp only [go_sem]))
    | (refine E.CALL.use (isRep_i _ _ ?_) ?_ <;> (try simp only [go_sem]))
    | (refine E.GB.use (fun h => ?_) (fun h => ?_) <;> (simp only [go_sem, h]) <;> (try simp only [HFS] at h))
    | (refine E.IX_map ?_ (fun hx => ?_); rotate_left; simp only [go_sem])
    | apply And.intro
    | omega
    | (have q := hasSrv_of (c := c) (id := id) (by assumption); omega; done)
    | (exact (CluB.at (by assumption) _); done)
    | (simp [dataSrv, srvAt, *]; done)
    | fail)
theorem dataSrv_eq (c : Clu) (id : Int) : dataSrv c id = (hasSrv c id && (roleOf (at' c.srvs id.toNat).conf id == 1 || roleOf (at' c.srvs id.toNat).conf id == 2)) := by
  unfold dataSrv isRep srvAt
  by_cases h : hasSrv c id = true
  · simp only [h, Bool.true_and]
    have q := hasSrv_of h
    have v := srv_of q.1 q.2.2.1 q.2.2.2.1
    by_cases hn : (at' c.srvs id.toNat).conf = noConf
    · rw [hn]; simp [noConf, roleOf, validConf, inR]
    · have hv := (validSrv_conf v.1 hn).1
      have := role_rep (id := id) hv
      rw [Bool.eq_iff_iff]
      simp only [Bool.or_eq_true, beq_iff_eq]
      exact this.symm
  · simp [h]
theorem dataSrv_s (c : Clu) (id : Int) (hB : CluB c) : Fn Go.Proofs.Tryz.prog 33 [.a (eClu false c), .c (.v (vi id))] [.a [.d, .d, .d, .d, .d, .d, .d, .d, .d, .d], .c .d] [.c (.v (.bool (dataSrv c id)))] := by
  refine E.Fn.ev (n := 24) mdG false mix Go.Proofs.Tryz.func33 rfl (by simp [Go.Proofs.Tryz.f33]) Go.Proofs.Tryz.ntmps33 (by simp) (by kernel_rfl) (rs := [.tmp 4]) (tys := [4]) rfl rfl (by simp [finOK, A.ts, OWN, ownE, ownT]) (by simp [resOK, A.ts, OWN, ownE, ownT, DE]) ?_
  simp only [go_sem]
  repeat' (first
    | simp only [IJS]
    | (refine E.CALL.use (hasSrv_s _ _ ?_) ?_ <;> (try simp only [go_sem]))
    | (refine E.CALL.use (role_s_B _ _ ?_) ?_ <;> (try simp only [go_sem]))
    | (refine E.GB.use (fun h => ?_) (fun h => ?_) <;> (simp only [go_sem, h]) <;> (try simp only [HFS] at h))
    | (refine E.IX_map ?_ (fun hx => ?_); rotate_left; simp only [go_sem])
    | apply And.intro
    | omega
    | (have q := hasSrv_of (c := c) (id := id) (by assumption); omega; done)
    | (exact (CluB.at (by assumption) _).conf; done)
    | (rw [dataSrv_eq]; simp [*]; done)
    | fail)
end
section
attribute [local go_sem] mdG_eq mdM toNat_pred setI List.length_set mdL_eq E.b_rem
theorem toOp_l (a : ROp) : Fn Go.Proofs.Tryz.prog 166 [.a (eROp a)] [.a [.d, .d, .d, .d, .d, .d]] [.a (eROp (a))] := by
  refine E.Fn.ev (n := 23) mdL false mix Go.Proofs.Tryz.func166 rfl (by simp [Go.Proofs.Tryz.f166]) Go.Proofs.Tryz.ntmps166 (by simp) (by kernel_rfl) (rs := [.cell 2 102]) (tys := [102]) rfl rfl (by simp [finOK, A.ts, OWN, ownE, ownT]) (by simp [resOK, A.ts, OWN, ownE, ownT, DE]) ?_
  simp only [go_sem]
  repeat' (first
    | simp only [IJS]
    | apply And.intro
    | omega
    | fail)
theorem toEnt_l (a : LEnt) : Fn Go.Proofs.Tryz.prog 156 [.a (eLEnt a)] [.a [.d, .d, .d, .d, .d, .d, .d]] [.a (eLEnt (a))] := by
  refine E.Fn.ev (n := 12) mdL false mix Go.Proofs.Tryz.func156 rfl (by simp [Go.Proofs.Tryz.f156]) Go.Proofs.Tryz.ntmps156 (by simp) (by kernel_rfl) (rs := [.cell 2 104]) (tys := [104]) rfl rfl (by simp [finOK, A.ts, OWN, ownE, ownT]) (by simp [resOK, A.ts, OWN, ownE, ownT, DE]) ?_
  simp only [go_sem]
  repeat' (first
    | simp only [IJS]
    | (refine E.CALL.use (toOp_l _) ?_ <;> (try simp only [go_sem]))
    | apply And.intro
    | omega
    | fail)
theorem toPlc_l (a : Plc) : Fn Go.Proofs.Tryz.prog 95 [.a (ePlc a)] [.a [.d, .d, .d]] [.a (ePlc (a))] := by
  refine E.Fn.ev (n := 14) mdL false mix Go.Proofs.Tryz.func95 rfl (by simp [Go.Proofs.Tryz.f95]) Go.Proofs.Tryz.ntmps95 (by simp) (by kernel_rfl) (rs := [.cell 2 122]) (tys := [122]) rfl rfl (by simp [finOK, A.ts, OWN, ownE, ownT]) (by simp [resOK, A.ts, OWN, ownE, ownT, DE]) ?_
  simp only [go_sem]
  repeat' (first
    | simp only [IJS]
    | apply And.intro
    | omega
    | fail)
theorem toLse_l (a : Lse) : Fn Go.Proofs.Tryz.prog 40 [.a (eLse a)] [.a [.d, .d, .d]] [.a (eLse (a))] := by
  refine E.Fn.ev (n := 14) mdL false mix Go.Proofs.Tryz.func40 rfl (by simp [Go.Proofs.Tryz.f40]) Go.Proofs.Tryz.ntmps40 (by simp) (by kernel_rfl) (rs := [.cell 2 37]) (tys := [37]) rfl rfl (by simp [finOK, A.ts, OWN, ownE, ownT]) (by simp [resOK, A.ts, OWN, ownE, ownT, DE]) ?_
  simp only [go_sem]
  repeat' (first
    | simp only [IJS]
    | apply And.intro
    | omega
    | fail)
theorem toI_l (l : List Int) (hl : l.length ≤ 1048576) : Fn Go.Proofs.Tryz.prog 38 [.c (.s false 1 (l.map eInt))] [.c .d] [.c (.s true 1 ((l).map eInt))] := by
  refine E.Fn.ev (n := 22) mdL false mix Go.Proofs.Tryz.func38 rfl (by simp [Go.Proofs.Tryz.f38]) Go.Proofs.Tryz.ntmps38 (by simp) (by kernel_rfl) (rs := [.tmp 2]) (tys := [23]) rfl rfl (by simp [finOK, A.ts, OWN, ownE, ownT]) (by simp [resOK, A.ts, OWN, ownE, ownT, DE]) ?_
  simp only [go_sem]
  repeat' (first
    | simp only [IJS]
    | (refine E.GB.use (fun h => ?_) (fun h => ?_) <;> (simp only [go_sem, h]) <;> (try simp only [HFS] at h))
    | exact E.RK.mk (by kernel_rfl)
    | (refine E.IX_map ?_ (fun hx => ?_); rotate_left; simp only [go_sem])
    | (refine E.loopR (ι := Nat) 3 rfl (fun i => [(.s 4, .v (.c (.v (vi i)))), (.k (7, 0), .e ⟨0, 1, (E.cp l i (0 : Int)).map eInt⟩)]) [0, 2, 3, 21] [(7, 0)] [] (fun i => l.length - i) (fun i => i ≤ l.length ∧ (E.cp l i (0 : Int)).length = l.length) mix (by kernel_rfl) 0 ?_ ?_ (fun i ⟨hi, hw⟩ => ?_); all_goals (try simp (maxSteps := 900000) only [go_sem]); all_goals (try dsimp only at hi hw))
    | (refine E.NEXT.use [] (i + 1) ?_ ?_ ?_; rotate_left 2; focus (simp (maxSteps := 900000) only [go_sem]; (repeat' (first | with_reducible rfl | exact E.RK.mk (by kernel_rfl) | apply And.intro | (push_cast; with_reducible rfl) | (refine E.int_c ?_; omega) | (simp only [go_sem]; done) | (rw [List.map_append]; rfl) | (simp; done) | (simp only [*]; done) | (rw [← E.cp_set, List.map_set] <;> first | rfl | omega; done) | fail)); done))
    | apply And.intro
    | omega
    | refine congrArg (List.map _) ?_
    | (rw [E.cp_len (by omega)]; done)
    | (rw [E.cp_zero, ← zeros]; rfl; done)
    | (have e : i = l.length := (by omega); subst e; rw [E.cp_full]; done)
    | fail)
theorem toE_l (l : List LEnt) (hl : l.length ≤ 1048576) : Fn Go.Proofs.Tryz.prog 134 [.c (.s false 7 (l.map eLEnt))] [.c .d] [.c (.s true 7 ((l).map eLEnt))] := by
  refine E.Fn.ev (n := 23) mdL false mix Go.Proofs.Tryz.func134 rfl (by simp [Go.Proofs.Tryz.f134]) Go.Proofs.Tryz.ntmps134 (by simp) (by kernel_rfl) (rs := [.tmp 2]) (tys := [51]) rfl rfl (by simp [finOK, A.ts, OWN, ownE, ownT]) (by simp [resOK, A.ts, OWN, ownE, ownT, DE]) ?_
  simp only [go_sem]
  repeat' (first
    | simp only [IJS]
    | (refine E.CALL.use (toEnt_l _) ?_ <;> (try simp only [go_sem]))
    | (refine E.GB.use (fun h => ?_) (fun h => ?_) <;> (simp only [go_sem, h]) <;> (try simp only [HFS] at h))
    | exact E.RK.mk (by kernel_rfl)
    | (refine E.IX_map ?_ (fun hx => ?_); rotate_left; simp only [go_sem])
    | (refine E.loopR (ι := Nat) 3 rfl (fun i => [(.s 4, .v (.c (.v (vi i)))), (.k (7, 0), .e ⟨0, 7, (E.cp l i (default : LEnt)).map eLEnt⟩)]) [0, 2, 3, 22] [(7, 0)] [] (fun i => l.length - i) (fun i => i ≤ l.length ∧ (E.cp l i (default : LEnt)).length = l.length) mix (by kernel_rfl) 0 ?_ ?_ (fun i ⟨hi, hw⟩ => ?_); all_goals (try simp (maxSteps := 900000) only [go_sem]); all_goals (try dsimp only at hi hw))
    | (refine E.NEXT.use [] (i + 1) ?_ ?_ ?_; rotate_left 2; focus (simp (maxSteps := 900000) only [go_sem]; (repeat' (first | with_reducible rfl | exact E.RK.mk (by kernel_rfl) | apply And.intro | (push_cast; with_reducible rfl) | (refine E.int_c ?_; omega) | (simp only [go_sem]; done) | (rw [List.map_append]; rfl) | (simp; done) | (simp only [*]; done) | (rw [← E.cp_set, List.map_set] <;> first | rfl | omega; done) | fail)); done))
    | apply And.intro
    | omega
    | refine congrArg (List.map _) ?_
    | (rw [E.cp_len (by omega)]; done)
    | (rw [E.cp_zero, ← zeros]; rfl; done)
    | (have e : i = l.length := (by omega); subst e; rw [E.cp_full]; done)
    | fail)
theorem toP_l (l : List Plc) (hl : l.length ≤ 1048576) : Fn Go.Proofs.Tryz.prog 41 [.c (.s false 3 (l.map ePlc))] [.c .d] [.c (.s true 3 ((l).map ePlc))] := by
  refine E.Fn.ev (n := 23) mdL false mix Go.Proofs.Tryz.func41 rfl (by simp [Go.Proofs.Tryz.f41]) Go.Proofs.Tryz.ntmps41 (by simp) (by kernel_rfl) (rs := [.tmp 2]) (tys := [38]) rfl rfl (by simp [finOK, A.ts, OWN, ownE, ownT]) (by simp [resOK, A.ts, OWN, ownE, ownT, DE]) ?_
  simp only [go_sem]
  repeat' (first
    | simp only [IJS]
    | (refine E.CALL.use (toPlc_l _) ?_ <;> (try simp only [go_sem]))
    | (refine E.GB.use (fun h => ?_) (fun h => ?_) <;> (simp only [go_sem, h]) <;> (try simp only [HFS] at h))
    | exact E.RK.mk (by kernel_rfl)
    | (refine E.IX_map ?_ (fun hx => ?_); rotate_left; simp only [go_sem])
    | (refine E.loopR (ι := Nat) 3 rfl (fun i => [(.s 4, .v (.c (.v (vi i)))), (.k (7, 0), .e ⟨0, 3, (E.cp l i (default : Plc)).map ePlc⟩)]) [0, 2, 3, 22] [(7, 0)] [] (fun i => l.length - i) (fun i => i ≤ l.length ∧ (E.cp l i (default : Plc)).length = l.length) mix (by kernel_rfl) 0 ?_ ?_ (fun i ⟨hi, hw⟩ => ?_); all_goals (try simp (maxSteps := 900000) only [go_sem]); all_goals (try dsimp only at hi hw))
    | (refine E.NEXT.use [] (i + 1) ?_ ?_ ?_; rotate_left 2; focus (simp (maxSteps := 900000) only [go_sem]; (repeat' (first | with_reducible rfl | exact E.RK.mk (by kernel_rfl) | apply And.intro | (push_cast; with_reducible rfl) | (refine E.int_c ?_; omega) | (simp only [go_sem]; done) | (rw [List.map_append]; rfl) | (simp; done) | (simp only [*]; done) | (rw [← E.cp_set, List.map_set] <;> first | rfl | omega; done) | fail)); done))
    | apply And.intro
    | omega
    | refine congrArg (List.map _) ?_
    | (rw [E.cp_len (by omega)]; done)
    | (rw [E.cp_zero, ← zeros]; rfl; done)
    | (have e : i = l.length := (by omega); subst e; rw [E.cp_full]; done)
    | fail)
theorem toC_l (a : Conf) (hB : ConfB a) : Fn Go.Proofs.Tryz.prog 133 [.a (eConf false a)] [.a [.d, .d, .d, .d]] [.a (eConf true (a))] := by
  refine E.Fn.ev (n := 19) mdL false mix Go.Proofs.Tryz.func133 rfl (by simp [Go.Proofs.Tryz.f133]) Go.Proofs.Tryz.ntmps133 (by simp) (by kernel_rfl) (rs := [.cell 2 50]) (tys := [50]) rfl rfl (by simp [finOK, A.ts, OWN, ownE, ownT]) (by simp [resOK, A.ts, OWN, ownE, ownT, DE]) ?_
  simp only [go_sem]
  repeat' (first
    | simp only [IJS]
    | (refine E.CALL.use (toI_l _ ?_) ?_ <;> (try simp only [go_sem]))
    | apply And.intro
    | omega
    | (exact ConfB.r (by assumption); done)
    | (exact ConfB.w (by assumption); done)
    | fail)
theorem toCs_l (l : List Conf) (hl : l.length ≤ 1048576) (hb : ∀ x ∈ l, ConfB x) : Fn Go.Proofs.Tryz.prog 94 [.c (.s false 4 (l.map (eConf false)))] [.c .d] [.c (.s true 4 ((l).map (eConf true)))] := by
  refine E.Fn.ev (n := 23) mdL false mix Go.Proofs.Tryz.func94 rfl (by simp [Go.Proofs.Tryz.f94]) Go.Proofs.Tryz.ntmps94 (by simp) (by kernel_rfl) (rs := [.tmp 2]) (tys := [34]) rfl rfl (by simp [finOK, A.ts, OWN, ownE, ownT]) (by simp [resOK, A.ts, OWN, ownE, ownT, DE]) ?_
  simp only [go_sem]
  repeat' (first
    | simp only [IJS]
    | (refine E.CALL.use (toC_l _ ?_) ?_ <;> (try simp only [go_sem]))
    | (refine E.GB.use (fun h => ?_) (fun h => ?_) <;> (simp only [go_sem, h]) <;> (try simp only [HFS] at h))
    | exact E.RK.mk (by kernel_rfl)
    | (refine E.IX_map ?_ (fun hx => ?_); rotate_left; simp only [go_sem])
    | (refine E.loopR (ι := Nat × Nat) 3 rfl (fun ⟨i, v⟩ => [(.s 4, .v (.c (.v (vi i)))), (.k (7, 0), .e ⟨v, 4, (E.cp l i (default : Conf)).map (eConf true)⟩)]) [0, 2, 3, 22] [(7, 0)] [] (fun ⟨i, v⟩ => l.length - i) (fun ⟨i, v⟩ => i ≤ l.length ∧ (E.cp l i (default : Conf)).length = l.length) mix (by kernel_rfl) (0, 0) ?_ ?_ (fun ⟨i, v⟩ ⟨hi, hw⟩ => ?_); all_goals (try simp (maxSteps := 900000) only [go_sem]); all_goals (try dsimp only at hi hw))
    | (refine E.NEXT.use [] (i + 1, v + 1) ?_ ?_ ?_; rotate_left 2; focus (simp (maxSteps := 900000) only [go_sem]; (repeat' (first | with_reducible rfl | exact E.RK.mk (by kernel_rfl) | apply And.intro | (push_cast; with_reducible rfl) | (refine E.int_c ?_; omega) | (simp only [go_sem]; done) | (rw [List.map_append]; rfl) | (simp; done) | (simp only [*]; done) | (rw [← E.cp_set, List.map_set] <;> first | rfl | omega; done) | fail)); done))
    | apply And.intro
    | omega
    | refine congrArg (List.map _) ?_
    | (rw [E.cp_len (by omega)]; done)
    | (rw [E.cp_zero, ← zeros]; rfl; done)
    | (have e : i = l.length := (by omega); subst e; rw [E.cp_full]; done)
    | (exact hb _ (E.at_mem (by omega)); done)
    | fail)
theorem toM_l (a : MLog) (hM : MLB a) : Fn Go.Proofs.Tryz.prog 39 [.a (eMLog false a)] [.a [.d, .d]] [.a (eMLog true (a))] := by
  refine E.Fn.ev (n := 12) mdL false mix Go.Proofs.Tryz.func39 rfl (by simp [Go.Proofs.Tryz.f39]) Go.Proofs.Tryz.ntmps39 (by simp) (by kernel_rfl) (rs := [.cell 2 36]) (tys := [36]) rfl rfl (by simp [finOK, A.ts, OWN, ownE, ownT]) (by simp [resOK, A.ts, OWN, ownE, ownT, DE]) ?_
  simp only [go_sem]
  repeat' (first
    | simp only [IJS]
    | (refine E.CALL.use (toCs_l _ ?_ ?_) ?_ <;> (try simp only [go_sem]))
    | apply And.intro
    | omega
    | (exact hM.len; done)
    | (exact hM.confs; done)
    | fail)
theorem toS_l (a : Srv) (hB : SrvB a) : Fn Go.Proofs.Tryz.prog 93 [.a (eSrv false a)] [.a [.d, .d, .d, .d, .d, .d, .d, .d, .d, .d, .d, .d]] [.a (eSrv true (a))] := by
  refine E.Fn.ev (n := 35) mdL false mix Go.Proofs.Tryz.func93 rfl (by simp [Go.Proofs.Tryz.f93]) Go.Proofs.Tryz.ntmps93 (by simp) (by kernel_rfl) (rs := [.cell 2 53]) (tys := [53]) rfl rfl (by simp [finOK, A.ts, OWN, ownE, ownT]) (by simp [resOK, A.ts, OWN, ownE, ownT, DE]) ?_
  simp only [go_sem]
  repeat' (first
    | simp only [IJS]
    | (refine E.CALL.use (toC_l _ ?_) ?_ <;> (try simp only [go_sem]))
    | (refine E.CALL.use (toE_l _ ?_) ?_ <;> (try simp only [go_sem]))
    | apply And.intro
    | omega
    | (exact SrvB.conf (by assumption); done)
    | (exact SrvB.log (by assumption); done)
    | (exact SrvB.learned (by assumption); done)
    | fail)
theorem toSs_l (l : List Srv) (hl : l.length ≤ 1048576) (hb : ∀ x ∈ l, SrvB x) : Fn Go.Proofs.Tryz.prog 37 [.c (.s false 12 (l.map (eSrv false)))] [.c .d] [.c (.s true 12 ((l).map (eSrv true)))] := by
  refine E.Fn.ev (n := 23) mdL false mix Go.Proofs.Tryz.func37 rfl (by simp [Go.Proofs.Tryz.f37]) Go.Proofs.Tryz.ntmps37 (by simp) (by kernel_rfl) (rs := [.tmp 2]) (tys := [33]) rfl rfl (by simp [finOK, A.ts, OWN, ownE, ownT]) (by simp [resOK, A.ts, OWN, ownE, ownT, DE]) ?_
  simp only [go_sem]
  repeat' (first
    | simp only [IJS]
    | (refine E.CALL.use (toS_l _ ?_) ?_ <;> (try simp only [go_sem]))
    | (refine E.GB.use (fun h => ?_) (fun h => ?_) <;> (simp only [go_sem, h]) <;> (try simp only [HFS] at h))
    | exact E.RK.mk (by kernel_rfl)
    | (refine E.IX_map ?_ (fun hx => ?_); rotate_left; simp only [go_sem])
    | (refine E.loopR (ι := Nat × Nat) 3 rfl (fun ⟨i, v⟩ => [(.s 4, .v (.c (.v (vi i)))), (.k (7, 0), .e ⟨v, 12, (E.cp l i (default : Srv)).map (eSrv true)⟩)]) [0, 2, 3, 22] [(7, 0)] [] (fun ⟨i, v⟩ => l.length - i) (fun ⟨i, v⟩ => i ≤ l.length ∧ (E.cp l i (default : Srv)).length = l.length) mix (by kernel_rfl) (0, 0) ?_ ?_ (fun ⟨i, v⟩ ⟨hi, hw⟩ => ?_); all_goals (try simp (maxSteps := 900000) only [go_sem]); all_goals (try dsimp only at hi hw))
    | (refine E.NEXT.use [] (i + 1, v + 1) ?_ ?_ ?_; rotate_left 2; focus (simp (maxSteps := 900000) only [go_sem]; (repeat' (first | with_reducible rfl | exact E.RK.mk (by kernel_rfl) | apply And.intro | (push_cast; with_reducible rfl) | (refine E.int_c ?_; omega) | (simp only [go_sem]; done) | (rw [List.map_append]; rfl) | (simp; done) | (simp only [*]; done) | (rw [← E.cp_set, List.map_set] <;> first | rfl | omega; done) | fail)); done))
    | apply And.intro
    | omega
    | refine congrArg (List.map _) ?_
    | (rw [E.cp_len (by omega)]; done)
    | (rw [E.cp_zero, ← zeros]; rfl; done)
    | (have e : i = l.length := (by omega); subst e; rw [E.cp_full]; done)
    | (exact hb _ (E.at_mem (by omega)); done)
    | fail)
theorem toU_l (a : Clu) (hB : CluB a) : Fn Go.Proofs.Tryz.prog 7 [.a (eClu false a)] [.a [.d, .d, .d, .d, .d, .d, .d, .d, .d, .d]] [.a (eClu true (a))] := by
  refine E.Fn.ev (n := 31) mdL false mix Go.Proofs.Tryz.func7 rfl (by simp [Go.Proofs.Tryz.f7]) Go.Proofs.Tryz.ntmps7 (by simp) (by kernel_rfl) (rs := [.cell 2 40]) (tys := [40]) rfl rfl (by simp [finOK, A.ts, OWN, ownE, ownT]) (by simp [resOK, A.ts, OWN, ownE, ownT, DE]) ?_
  simp only [go_sem]
  repeat' (first
    | simp only [IJS]
    | (refine E.CALL.use (toSs_l _ ?_ ?_) ?_ <;> (try simp only [go_sem]))
    | (refine E.CALL.use (toI_l _ ?_) ?_ <;> (try simp only [go_sem]))
    | (refine E.CALL.use (toM_l _ ?_) ?_ <;> (try simp only [go_sem]))
    | (refine E.CALL.use (toLse_l _) ?_ <;> (try simp only [go_sem]))
    | (refine E.CALL.use (toP_l _ ?_) ?_ <;> (try simp only [go_sem]))
    | apply And.intro
    | omega
    | (exact hB.srvs; done)
    | (exact CluB.m (by assumption); done)
    | (exact CluB.sd (by assumption); done)
    | (exact CluB.pl (by assumption); done)
    | (exact CluB.sl (by assumption); done)
    | fail)
end
section
attribute [local go_sem] mdG_eq mdM toNat_pred setI List.length_set eLI_eq eLE_eq
theorem repairR_s (c : Clu) (f : Int) (t : Int) (hB : CluB c) : Fn Go.Proofs.Tryz.prog 6 [.a (eClu false c), .c (.v (vi f)), .c (.v (vi t))] [.a [.d, .d, .d, .d, .d, .d, .d, .d, .d, .d], .c .d, .c .d] [.a (eClu true ((repairR c f t).1)), .c (.v (.bool ((repairR c f t).2)))] := by
  refine E.Fn.ev (n := 93) mdG false mix Go.Proofs.Tryz.func6 rfl (by simp [Go.Proofs.Tryz.f6]) Go.Proofs.Tryz.ntmps6 (by simp) (by kernel_rfl) (rs := [.cell 6 40, .tmp 7]) (tys := [40, 4]) rfl rfl (by simp [finOK, A.ts, OWN, ownE, ownT]) (by simp [resOK, A.ts, OWN, ownE, ownT, DE]) ?_
  simp only [go_sem]
  repeat' (first
    | simp only [IJS]
    | (refine E.CALL.use (copyU_s_B _ ?_) ?_ <;> (try simp only [go_sem]))
    | (refine E.CALL.use (dataSrv_s _ _ ?_) ?_ <;> (try simp only [go_sem]))
    | (refine E.CALL.use (eqConf_s_B _ _ ?_ ?_) ?_ <;> (try simp only [go_sem]))
    | (refine E.CALL.use (sameSide_s _ _ _ ?_) ?_ <;> (try simp only [go_sem]))
    | (refine E.CALL.use (copyL_s _ ?_) ?_ <;> (try simp only [go_sem]))
    | (refine E.GB.use (fun h => ?_) (fun h => ?_) <;> (simp only [go_sem, h]) <;> (try simp only [HFS] at h))
    | exact E.INDEP.mk2 (by kernel_rfl)
    | (refine E.IX_map ?_ (fun hx => ?_); rotate_left; simp only [go_sem])
    | (refine E.IX_set ?_ ?_; rotate_left; simp only [go_sem])
    | apply And.intro
    | omega
    | refine congrArg (List.map _) ?_
    | (have q := dataSrv_of (c := c) (id := f) (by assumption); omega; done)
    | (have q := dataSrv_of (c := c) (id := t) (by assumption); omega; done)
    | (exact (CluB.at (by assumption) _).conf; done)
    | (exact (CluB.at (by assumption) _).log; done)
    | (simp [repairR, setCommit, setLog, srvAt, setSrv, List.map_set, DE, *]; done)
    | fail)
end
end Go.Abs

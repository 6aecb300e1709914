/- Contracts of functions of the program, over the abstract machine, and facts for them. No condition. -/
import Derived.Test.YtlpbeejmefhpeaaGreatFacts
import Derived.Test.YtlpbeejmefhpeaaGreatPure25
import Derived.Test.YtlpbeejmefhpeaaGreatQ10
import Derived.Test.YtlpbeejmefhpeaaGreatQ13
import Derived.Test.YtlpbeejmefhpeaaGreatQ3
import Derived.Test.YtlpbeejmefhpeaaGreatQ4
import Derived.Test.YtlpbeejmefhpeaaGreatQ8
set_option linter.unusedVariables false
set_option linter.unusedSimpArgs false
set_option linter.unnecessarySimpa false
set_option linter.constructorNameAsVariable false
set_option maxHeartbeats 4000000
set_option maxRecDepth 100000
namespace Go.Abs
open Go
attribute [local go_sem ↓] E.argsA_h E.wq_ret E.wq_req E.wq_bad E.wq_call E.wq_get E.wq_getO E.wq_getOs E.wq_getPs E.wq_fresh E.wq_anyNil E.wq_getR0 E.wq_getR E.wq_ixM E.wq_n E.wq_g E.wq_gn E.ev_skip E.ev_region E.ev_draw E.ev_seq E.ev_cond E.ev_block E.ev_exit E.ev_ret E.sq_n E.sq_e E.sq_r E.bl_n E.bl_e E.bl_r E.lp_n E.lp_e E.lp_r E.fk_n E.fk_r E.q_move E.q_assign E.q_pick E.q_bin E.q_binw E.q_un E.q_alloc E.q_box E.q_build E.q_buildS E.q_makeS E.q_load E.q_store E.q_nilCheck E.q_slice E.q_fieldAddr E.q_field E.q_indexAddr E.q_extract E.q_makeFunc E.q_call E.q_callT E.q_len E.q_append E.q_min E.q_max E.q_convert E.q_cap E.q_clear appendIM appendZM E.b_add E.b_sub E.b_mul E.b_eql E.b_neq E.b_lss E.b_leq E.b_gtr E.b_geq E.GO_tmp E.GO_int E.GO_bool E.GO_str E.GO_nil E.GO_func E.GOs_nil E.GOs_cons E.GPs_nil E.GPs_cons E.RW_nil E.RW_cons E.dstAt_0 E.dstAt_s E.keepL_nil E.keepL_s E.keepL_k E.rmN_nil E.rmN_cons E.memN_nil E.memN_cons E.memK_nil E.memK_cons E.ovl_nil E.ovl_kk E.ovl_sk E.ovl_ks E.ovl_ss ofL_s ofL_sk ofL_ks ofL_k ofL_nil E.CO_tmp E.CO_bool
attribute [local go_sem] E.RM_nil E.RM_cons E.kd_k E.sbr_eq E.s3_nil E.s3_s E.s3_k E.vr_c E.vr_a E.vr_p E.vr_q E.vr_t E.vr_f E.vr_u E.cr_r E.cr_v E.cr_b E.cr_n E.cr_u E.crs_nil E.crs_cons E.renK_nil E.renK_cons keysVs V.keys C.keys keysCs E.RG_nil E.RG_cons E.GV_v E.GB_true E.GB_false E.GX_b E.GG_t E.GG_f E.GG_u E.GU_some E.IX_0 E.IX_s E.CX_s E.FR_none E.EN_e E.GVB_b E.b_boolM E.b_nilM E.b_strM E.b_aggM
attribute [local go_sem] List.cons_append List.nil_append List.append_nil List.length_cons List.length_nil List.length_map List.length_append callM E.argsH_nil E.argsH_cons E.argH_c E.argH_a E.argH_f E.cellsH_nil E.cellsH_cons E.cellH_v E.cellH_b E.cellH_n E.cellH_nt E.cellH_u E.cellH_rt E.cellH_rf capsA capA callable backs backT resVs resV resC tupV lenV intV boolV getE getO entryL entryKs A.ts entryV entryC entryCs entryCap List.map_cons List.map_nil E.cut_n E.cut_r E.cutM plainL A.lastOK T.lastOK Bool.false_or A.capOK szEs szE szT SZ whole toB toC List.drop_zero List.take_zero List.take_succ_cons List.drop_succ_cons resultsM resultM outM outM1 convs conv finAs finA finT finTs Int.toNat_natCast A.plain T.plain List.isEmpty_nil List.isEmpty_cons Bool.or_true Bool.true_or Bool.and_self List.getElem?_cons_zero List.getElem?_cons_succ Option.bind_some Option.bind_none Option.bind Nat.zero_add Nat.add_zero OWN BOR ONE SCAL DE ETA E.take_rest Int.toNat_zero E.take_map E.drop_map E.take_len1 List.take_length E.app_map Int.natCast_zero Int.sub_zero Int.toNat_sub partCells V.cells convsL appendM srcM E.scalEs_nil E.scalEs_cons E.oneEs_nil E.oneEs_cons List.all_cons List.all_nil T.one Bool.and_true gone ownEs ownE ownT borEs borE borT setRow splice List.set_cons_zero List.set_cons_succ optI getOpt sliceM ptrTo app_ofL T.isV Value.oneCell' fillC zeroC spliceC allV eqVs eqV minV maxV setAt setCell holed List.dropLast List.getLast?_singleton Option.getD_some Option.isSome_some Option.isSome_none Bool.and_false Bool.true_and Bool.false_and Option.map_some Option.map_none false_or true_or or_true rowAt cellAt E.constV_nil E.constV_int E.constV_bool E.constV_str E.setCell_set E.setCell_len setRow setAt List.dropLast_cons_cons List.dropLast_singleton List.getLast?_cons_cons
attribute [local go_sem_proc ↓] reduceIte
attribute [local go_sem_proc] Nat.reduceEqDiff reduceCtorEq Nat.reduceAdd Nat.reduceMul
attribute [local irreducible] E.argsH E.argH E.cellsH E.cellH E.GV E.GB E.GX E.GG E.GU E.IX E.CX E.RW E.FR E.EN E.CALL E.GO E.GOs E.GPs E.GVB E.KD E.RM E.RG E.CO E.WQ E.EV E.SQ E.BL E.LP E.FK E.S3 E.RK E.NEXT E.NQ E.INDEP
section
attribute [local go_sem] mdG_eq mdM toNat_pred setI List.length_set eLI_eq eLE_eq
theorem notSide_c (x : Int) : Fn Go.Proofs.Tryz.prog 176 [.c (.v (vi x))] [.c .d] [.c (.v (.bool (!side x)))] := by
  refine E.Fn.ev (n := 6) mdG false mix Go.Proofs.Tryz.func176 rfl (by simp [Go.Proofs.Tryz.f176]) Go.Proofs.Tryz.ntmps176 (by simp) (by kernel_rfl) (rs := [.tmp 2]) (tys := [4]) rfl rfl (by simp [finOK, A.ts, OWN, ownE, ownT]) (by simp [resOK, A.ts, OWN, ownE, ownT, DE]) ?_
  simp only [go_sem]
  repeat' (first
    | simp only [IJS]
    | (refine E.CALL.use (in_i _ _ _) ?_ <;> (try simp only [go_sem]))
    | (simp [side]; done)
    | fail)
theorem areSides_i (l : List Int) (hl : l.length ≤ 1048576) : Fn Go.Proofs.Tryz.prog 154 [.c (.s false 1 (l.map eInt))] [.c .d] [.c (.v (.bool (areSides l)))] := by
  refine E.Fn.ev (n := 11) mdG false mix Go.Proofs.Tryz.func154 rfl (by simp [Go.Proofs.Tryz.f154]) Go.Proofs.Tryz.ntmps154 (by simp) (by kernel_rfl) (rs := [.tmp 2]) (tys := [4]) rfl rfl (by simp [finOK, A.ts, OWN, ownE, ownT]) (by simp [resOK, A.ts, OWN, ownE, ownT, DE]) ?_
  simp only [go_sem]
  repeat' (first
    | simp only [IJS]
    | (refine E.CALL.use (anyF_I0 l (fun x => !side x) 176 hl (fun x _ => notSide_c x)) ?_ <;> (try simp only [go_sem]))
    | (refine E.GB.use (fun h => ?_) (fun h => ?_) <;> (simp only [go_sem, h]) <;> (try simp only [HFS] at h))
    | (rw [any_not side l, areSides, beq_iff_eq.2 h, Bool.true_and]; done)
    | (simp_all [areSides]; done)
    | fail)
theorem sameSide_i (l : List Int) (a : Int) (b : Int) (hl : l.length ≤ 1048576) : Fn Go.Proofs.Tryz.prog 188 [.c (.s false 1 (l.map eInt)), .c (.v (vi a)), .c (.v (vi b))] [.c .d, .c .d, .c .d] [.c (.v (.bool (sameSide l a b)))] := by
  refine E.Fn.ev (n := 28) mdG false mix Go.Proofs.Tryz.func188 rfl (by simp [Go.Proofs.Tryz.f188]) Go.Proofs.Tryz.ntmps188 (by simp) (by kernel_rfl) (rs := [.tmp 6]) (tys := [4]) rfl rfl (by simp [finOK, A.ts, OWN, ownE, ownT]) (by simp [resOK, A.ts, OWN, ownE, ownT, DE]) ?_
  simp only [go_sem]
  repeat' (first
    | simp only [IJS]
    | (refine E.CALL.use (areSides_i _ ?_) ?_ <;> (try simp only [go_sem]))
    | (refine E.CALL.use (in_i _ _ _) ?_ <;> (try simp only [go_sem]))
    | (refine E.GB.use (fun h => ?_) (fun h => ?_) <;> (simp only [go_sem, h]) <;> (try simp only [HFS] at h))
    | exact E.INDEP.mk2 (by kernel_rfl)
    | (refine E.IX_map ?_ (fun hx => ?_); rotate_left; simp only [go_sem])
    | apply And.intro
    | omega
    | (have q1 := areSides_len (l := l) (by assumption); have q2 := inR_of (x := a) (by assumption); have q3 := inR_of (x := b) (by assumption); omega; done)
    | (simp [sameSide, *]; done)
    | fail)
theorem isTail_i (f : Int) (l : List LEnt) (hl : l.length ≤ 1048576) : Fn Go.Proofs.Tryz.prog 172 [.c (.v (vi f)), .c (.s false 7 (l.map eLEnt))] [.c .d, .c .d] [.c (.v (.bool (isTail f l)))] := by
  refine E.Fn.ev (n := 28) mdG false mix Go.Proofs.Tryz.func172 rfl (by simp [Go.Proofs.Tryz.f172]) Go.Proofs.Tryz.ntmps172 (by simp) (by kernel_rfl) (rs := [.tmp 4]) (tys := [4]) rfl rfl (by simp [finOK, A.ts, OWN, ownE, ownT]) (by simp [resOK, A.ts, OWN, ownE, ownT, DE]) ?_
  simp only [go_sem]
  repeat' (first
    | simp only [IJS]
    | (refine E.CALL.use (isLog_i _ ?_) ?_ <;> (try simp only [go_sem]))
    | (refine E.CALL.use (in_i _ _ _) ?_ <;> (try simp only [go_sem]))
    | (refine E.GB.use (fun h => ?_) (fun h => ?_) <;> (simp only [go_sem, h]) <;> (try simp only [HFS] at h))
    | apply And.intro
    | omega
    | (simp_all [isTail]; done)
    | (have h9 : decide ((l.length : Int) ≤ 3) = false := (by simp; omega); simp [isTail, h9]; done)
    | fail)
theorem wrap_id {x : Int} (h1 : -9223372036854775808 ≤ x) (h2 : x ≤ 9223372036854775807) : IntKind.i64.wrap x = x := IntWalk.i64_in x (by omega)
theorem validSrv_i (s : Srv) (id : Int) (hB : SrvB s) : Fn Go.Proofs.Tryz.prog 141 [.a (eSrv false s), .c (.v (vi id))] [.a [.d, .d, .d, .d, .d, .d, .d, .d, .d, .d, .d, .d], .c .d] [.c (.v (.bool (validSrv s id)))] := by
  refine E.Fn.ev (n := 106) mdG true mix Go.Proofs.Tryz.func141 rfl (by simp [Go.Proofs.Tryz.f141]) Go.Proofs.Tryz.ntmps141 (by simp) (by kernel_rfl) (rs := [.tmp 4]) (tys := [4]) rfl rfl (by simp [finOK, A.ts, OWN, ownE, ownT]) (by simp [resOK, A.ts, OWN, ownE, ownT, DE]) ?_
  simp only [go_sem, binM, intBin]
  repeat' (first
    | simp only [IJS]
    | (refine E.CALL.use (eqConf_i_B s.conf noConf ?_ ?_) ?_ <;> (try simp only [go_sem, binM, intBin]))
    | (refine E.CALL.use (in_i _ _ _) ?_ <;> (try simp only [go_sem, binM, intBin]))
    | (refine E.CALL.use (isLog_i _ ?_) ?_ <;> (try simp only [go_sem, binM, intBin]))
    | (refine E.CALL.use (lastE_i _ ?_) ?_ <;> (try simp only [go_sem, binM, intBin]))
    | (refine E.CALL.use (role_i_B _ _ ?_) ?_ <;> (try simp only [go_sem, binM, intBin]))
    | (refine E.CALL.use (isTail_i _ _ ?_) ?_ <;> (try simp only [go_sem, binM, intBin]))
    | (refine E.GB.use (fun h => ?_) (fun h => ?_) <;> (simp only [go_sem, binM, intBin, h]) <;> (try simp only [HFS] at h))
    | exact E.INDEP.mk2 (by kernel_rfl)
    | apply And.intro
    | omega
    | (exact SrvB.conf (by assumption); done)
    | (exact SrvB.log (by assumption); done)
    | (exact SrvB.learned (by assumption); done)
    | (exact ConfB.no; done)
    | (simp_all [validSrv]; done)
    | (have q1 := inR_of (x := s.first) (by assumption); have q9 := isLog_len (l := s.log) (by assumption); simp only [wrap_id (x := s.first + s.log.length) (by omega) (by omega)] at *; have h9 : decide (s.first + s.log.length ≤ 16) = false := (by simp; omega); simp [validSrv, h9]; done)
    | (have q1 := inR_of (x := s.first) (by assumption); have q9 := isLog_len (l := s.log) (by assumption); simp only [wrap_id (x := s.first + s.log.length) (by omega) (by omega)] at *; simp_all [validSrv]; done)
    | (have h9 : decide (s.conf.epoch ≤ s.epoch) = false := (by simp; omega); simp [validSrv, h9, *]; done)
    | (have h9 : decide (lastE s.log ≤ s.conf.epoch) = false := (by simp; omega); simp [validSrv, h9, *]; done)
    | fail)
end
section
attribute [local go_sem] mdG_eq mdM toNat_pred setI List.length_set eLI_eq eLE_eq
theorem primNow_i (s : Srv) (id : Int) (hB : SrvB s) : Fn Go.Proofs.Tryz.prog 90 [.a (eSrv false s), .c (.v (vi id))] [.a [.d, .d, .d, .d, .d, .d, .d, .d, .d, .d, .d, .d], .c .d] [.c (.v (.bool (primNow s id)))] := by
  refine E.Fn.ev (n := 27) mdG false mix Go.Proofs.Tryz.func90 rfl (by simp [Go.Proofs.Tryz.f90]) Go.Proofs.Tryz.ntmps90 (by simp) (by kernel_rfl) (rs := [.tmp 4]) (tys := [4]) rfl rfl (by simp [finOK, A.ts, OWN, ownE, ownT]) (by simp [resOK, A.ts, OWN, ownE, ownT, DE]) ?_
  simp only [go_sem]
  repeat' (first
    | simp only [IJS]
    | (refine E.CALL.use (validSrv_i _ _ ?_) ?_ <;> (try simp only [go_sem]))
    | (refine E.CALL.use (role_i_B _ _ ?_) ?_ <;> (try simp only [go_sem]))
    | (refine E.GB.use (fun h => ?_) (fun h => ?_) <;> (simp only [go_sem, h]) <;> (try simp only [HFS] at h))
    | apply And.intro
    | omega
    | (exact SrvB.conf (by assumption); done)
    | (simp_all [primNow]; done)
    | fail)
theorem validClu_i (c : Clu) (hB : CluB c) : Fn Go.Proofs.Tryz.prog 120 [.a (eClu false c)] [.a [.d, .d, .d, .d, .d, .d, .d, .d, .d, .d]] [.c (.v (.bool (validClu c)))] := by
  refine E.Fn.ev (n := 118) mdG false mix Go.Proofs.Tryz.func120 rfl (by simp [Go.Proofs.Tryz.f120]) Go.Proofs.Tryz.ntmps120 (by simp) (by kernel_rfl) (rs := [.tmp 2]) (tys := [4]) rfl rfl (by simp [finOK, A.ts, OWN, ownE, ownT]) (by simp [resOK, A.ts, OWN, ownE, ownT, DE]) ?_
  simp only [go_sem]
  repeat' (first
    | simp only [IJS]
    | (refine E.CALL.use (eqConf_i_B _ noConf ?_ ?_) ?_ <;> (try simp only [go_sem]))
    | (refine E.CALL.use (in_i _ _ _) ?_ <;> (try simp only [go_sem]))
    | (refine E.CALL.use (areSides_i _ ?_) ?_ <;> (try simp only [go_sem]))
    | (refine E.CALL.use (isML_i_B _ ?_) ?_ <;> (try simp only [go_sem]))
    | (refine E.CALL.use (isLease_i _) ?_ <;> (try simp only [go_sem]))
    | (refine E.CALL.use (arePlc_i _ ?_) ?_ <;> (try simp only [go_sem]))
    | (refine E.CALL.use (validSrv_i _ _ ?_) ?_ <;> (try simp only [go_sem]))
    | (refine E.CALL.use (lastE_i _ ?_) ?_ <;> (try simp only [go_sem]))
    | (refine E.CALL.use (eqConf_i_B _ _ ?_ ?_) ?_ <;> (try simp only [go_sem]))
    | (refine E.CALL.use (confAt_i_B _ _ ?_) ?_ <;> (try simp only [go_sem]))
    | (refine E.GB.use (fun h => ?_) (fun h => ?_) <;> (simp only [go_sem, h]) <;> (try simp only [HFS] at h))
    | exact E.INDEP.mk2 (by kernel_rfl)
    | exact E.RK.mk (by kernel_rfl)
    | (refine E.IX_map ?_ (fun hx => ?_); rotate_left; simp only [go_sem])
    | (refine E.loopR (ι := Nat) 4 rfl (fun i => [(.s 59, .v (.c (.v (vi i))))]) [1, 57, 58] [] [] (fun i => (c.srvs).length - i) (fun i => i ≤ (c.srvs).length ∧ (inR c.now 0 999 && ((c.srvs.length : Int) == 5) && areSides c.sides && isML c.mast && isLease c.lse && arePlaces c.plcs && inR c.mup 0 3 && decide (c.lse.epoch ≤ c.mast.act) && srvsOK c i (c.srvs.drop i)) = validClu c) mix (by kernel_rfl) 0 ?_ ?_ (fun i ⟨hi, hR⟩ => ?_); all_goals (try simp (maxSteps := 900000) only [go_sem]); all_goals (try dsimp only at hi hR))
    | (refine E.NEXT.use [] (i + 1) ?_ ?_ ?_; rotate_left 2; focus (simp (maxSteps := 900000) only [go_sem]; (repeat' (first | with_reducible rfl | exact E.RK.mk (by kernel_rfl) | apply And.intro | (push_cast; with_reducible rfl) | (refine E.int_c ?_; omega) | (simp only [go_sem]; done) | (rw [List.map_append]; rfl) | (simp; done) | (simp only [*]; done) | fail)); done))
    | apply And.intro
    | omega
    | (exact (CluB.at (by assumption) _); done)
    | (exact (CluB.at (by assumption) _).conf; done)
    | (exact (CluB.at (by assumption) _).learned; done)
    | (exact CluB.m (by assumption); done)
    | (exact CluB.sd (by assumption); done)
    | (exact CluB.pl (by assumption); done)
    | (exact (CluB.m (by assumption)).at _; done)
    | (exact ConfB.no; done)
    | (rfl; done)
    | (rw [E.drop_end (l := c.srvs) (i := i) (by omega)] at hR; rw [← hR]; simp_all [srvsOK]; done)
    | (rw [drop_at (l := c.srvs) (i := i) (by omega)] at hR; rw [← hR]; simp_all [srvsOK]; done)
    | (rw [drop_at (l := c.srvs) (i := i) (by omega)] at hR; have h9 : decide ((at' c.srvs i).epoch ≤ c.mast.confs.length) = false := (by simp; omega); rw [← hR]; simp [srvsOK, h9]; done)
    | (rw [drop_at (l := c.srvs) (i := i) (by omega)] at hR; have h9 : decide (lastE (at' c.srvs i).learned ≤ c.mast.act) = false := (by simp; omega); rw [← hR]; simp [srvsOK, h9]; done)
    | (rw [drop_at (l := c.srvs) (i := i) (by omega)] at hR; have h9 : decide ((at' c.srvs i).conf.epoch ≤ c.mast.act) = false := (by simp; omega); rw [← hR]; simp [srvsOK, h9, *]; done)
    | (have h9 : decide (c.lse.epoch ≤ c.mast.act) = false := (by simp; omega); simp [validClu, h9]; done)
    | (simp_all [validClu]; done)
    | fail)
end
section
attribute [local go_sem] mdG_eq mdM toNat_pred setI List.length_set eLI_eq eLE_eq
theorem hasSrv_i (c : Clu) (id : Int) (hB : CluB c) : Fn Go.Proofs.Tryz.prog 62 [.a (eClu false c), .c (.v (vi id))] [.a [.d, .d, .d, .d, .d, .d, .d, .d, .d, .d], .c .d] [.c (.v (.bool (hasSrv c id)))] := by
  refine E.Fn.ev (n := 11) mdG false mix Go.Proofs.Tryz.func62 rfl (by simp [Go.Proofs.Tryz.f62]) Go.Proofs.Tryz.ntmps62 (by simp) (by kernel_rfl) (rs := [.tmp 4]) (tys := [4]) rfl rfl (by simp [finOK, A.ts, OWN, ownE, ownT]) (by simp [resOK, A.ts, OWN, ownE, ownT, DE]) ?_
  simp only [go_sem]
  repeat' (first
    | simp only [IJS]
    | (refine E.CALL.use (validClu_i _ ?_) ?_ <;> (try simp only [go_sem]))
    | (refine E.CALL.use (in_i _ _ _) ?_ <;> (try simp only [go_sem]))
    | (refine E.GB.use (fun h => ?_) (fun h => ?_) <;> (simp only [go_sem, h]) <;> (try simp only [HFS] at h))
    | apply And.intro
    | omega
    | (simp [hasSrv, *]; done)
    | fail)
theorem primAt_i (c : Clu) (id : Int) (hB : CluB c) : Fn Go.Proofs.Tryz.prog 43 [.a (eClu false c), .c (.v (vi id))] [.a [.d, .d, .d, .d, .d, .d, .d, .d, .d, .d], .c .d] [.c (.v (.bool (primAt c id)))] := by
  refine E.Fn.ev (n := 17) mdG false mix Go.Proofs.Tryz.func43 rfl (by simp [Go.Proofs.Tryz.f43]) Go.Proofs.Tryz.ntmps43 (by simp) (by kernel_rfl) (rs := [.tmp 4]) (tys := [4]) rfl rfl (by simp [finOK, A.ts, OWN, ownE, ownT]) (by simp [resOK, A.ts, OWN, ownE, ownT, DE]) ?_
  simp only [go_sem]
  repeat' (first
    | simp only [IJS]
    | (refine E.CALL.use (hasSrv_i _ _ ?_) ?_ <;> (try simp only [go_sem]))
    | (refine E.CALL.use (primNow_i _ _ ?_) ?_ <;> (try simp only [go_sem]))
    | (refine E.GB.use (fun h => ?_) (fun h => ?_) <;> (simp only [go_sem, h]) <;> (try simp only [HFS] at h))
    | (refine E.IX_map ?_ (fun hx => ?_); rotate_left; simp only [go_sem])
    | apply And.intro
    | omega
    | (exact (CluB.at (by assumption) _); done)
    | (have q := hasSrv_of (c := c) (id := id) (by assumption); omega; done)
    | (simp [primAt, srvAt, *]; done)
    | fail)
theorem primAt_s (c : Clu) (id : Int) (hB : CluB c) : Fn Go.Proofs.Tryz.prog 83 [.a (eClu false c), .c (.v (vi id))] [.a [.d, .d, .d, .d, .d, .d, .d, .d, .d, .d], .c .d] [.c (.v (.bool (primAt c id)))] := by
  refine E.Fn.ev (n := 20) mdG false mix Go.Proofs.Tryz.func83 rfl (by simp [Go.Proofs.Tryz.f83]) Go.Proofs.Tryz.ntmps83 (by simp) (by kernel_rfl) (rs := [.tmp 4]) (tys := [4]) rfl rfl (by simp [finOK, A.ts, OWN, ownE, ownT]) (by simp [resOK, A.ts, OWN, ownE, ownT, DE]) ?_
  simp only [go_sem]
  repeat' (first
    | simp only [IJS]
    | (refine E.CALL.use (validClu_s_B _ ?_) ?_ <;> (try simp only [go_sem]))
    | (refine E.CALL.use (in_s _ _ _) ?_ <;> (try simp only [go_sem]))
    | (refine E.CALL.use (primNow_s_B _ _ ?_) ?_ <;> (try simp only [go_sem]))
    | (refine E.GB.use (fun h => ?_) (fun h => ?_) <;> (simp only [go_sem, h]) <;> (try simp only [HFS] at h))
    | (refine E.IX_map ?_ (fun hx => ?_); rotate_left; simp only [go_sem])
    | apply And.intro
    | omega
    | (exact (CluB.at (by assumption) _); done)
    | (have q := hasSrv_of (c := c) (id := id) (by simp [hasSrv, *]); omega; done)
    | (simp [primAt, srvAt, hasSrv, *]; done)
    | fail)
end
section
attribute [local go_sem] mdG_eq mdM toNat_pred setI List.length_set eLI_eq eLE_eq
theorem upCode_i (c : Clu) (id : Int) (hB : CluB c) : Fn Go.Proofs.Tryz.prog 41 [.a (eClu false c), .c (.v (vi id))] [.a [.d, .d, .d, .d, .d, .d, .d, .d, .d, .d], .c .d] [.c (.v (vi (upCode c id)))] := by
  refine E.Fn.ev (n := 18) mdG false mix Go.Proofs.Tryz.func41 rfl (by simp [Go.Proofs.Tryz.f41]) Go.Proofs.Tryz.ntmps41 (by simp) (by kernel_rfl) (rs := [.tmp 4]) (tys := [3]) rfl rfl (by simp [finOK, A.ts, OWN, ownE, ownT]) (by simp [resOK, A.ts, OWN, ownE, ownT, DE]) ?_
  simp only [go_sem]
  repeat' (first
    | simp only [IJS]
    | (refine E.CALL.use (hasSrv_i _ _ ?_) ?_ <;> (try simp only [go_sem]))
    | (refine E.GB.use (fun h => ?_) (fun h => ?_) <;> (simp only [go_sem, h]) <;> (try simp only [HFS] at h))
    | (refine E.IX_map ?_ (fun hx => ?_); rotate_left; simp only [go_sem])
    | apply And.intro
    | omega
    | (have q := hasSrv_of (c := c) (id := id) (by assumption); omega; done)
    | (simp [upCode, srvAt, *]; done)
    | fail)
theorem upCode_s (c : Clu) (id : Int) (hB : CluB c) : Fn Go.Proofs.Tryz.prog 32 [.a (eClu false c), .c (.v (vi id))] [.a [.d, .d, .d, .d, .d, .d, .d, .d, .d, .d], .c .d] [.c (.v (vi (upCode c id)))] := by
  refine E.Fn.ev (n := 20) mdG false mix Go.Proofs.Tryz.func32 rfl (by simp [Go.Proofs.Tryz.f32]) Go.Proofs.Tryz.ntmps32 (by simp) (by kernel_rfl) (rs := [.tmp 4]) (tys := [3]) rfl rfl (by simp [finOK, A.ts, OWN, ownE, ownT]) (by simp [resOK, A.ts, OWN, ownE, ownT, DE]) ?_
  simp only [go_sem]
  repeat' (first
    | simp only [IJS]
    | (refine E.CALL.use (validClu_s_B _ ?_) ?_ <;> (try simp only [go_sem]))
    | (refine E.CALL.use (in_s _ _ _) ?_ <;> (try simp only [go_sem]))
    | (refine E.GB.use (fun h => ?_) (fun h => ?_) <;> (simp only [go_sem, h]) <;> (try simp only [HFS] at h))
    | (refine E.IX_map ?_ (fun hx => ?_); rotate_left; simp only [go_sem])
    | apply And.intro
    | omega
    | (have q := hasSrv_of (c := c) (id := id) (by simp [hasSrv, *]); omega; done)
    | (simp [upCode, srvAt, hasSrv, *]; done)
    | fail)
end
section
attribute [local go_sem] mdG_eq mdM toNat_pred setI List.length_set eLI_eq eLE_eq
theorem holds_s (l : Lse) (epoch : Int) (holder : Int) (now : Int) : Fn Go.Proofs.Tryz.prog 84 [.a (eLse l), .c (.v (vi epoch)), .c (.v (vi holder)), .c (.v (vi now))] [.a [.d, .d, .d], .c .d, .c .d, .c .d] [.c (.v (.bool (holds l epoch holder now)))] := by
  refine E.Fn.ev (n := 39) mdG false mix Go.Proofs.Tryz.func84 rfl (by simp [Go.Proofs.Tryz.f84]) Go.Proofs.Tryz.ntmps84 (by simp) (by kernel_rfl) (rs := [.tmp 8]) (tys := [4]) rfl rfl (by simp [finOK, A.ts, OWN, ownE, ownT]) (by simp [resOK, A.ts, OWN, ownE, ownT, DE]) ?_
  simp only [go_sem]
  repeat' (first
    | simp only [IJS]
    | (refine E.CALL.use (isLease_s _) ?_ <;> (try simp only [go_sem]))
    | (refine E.CALL.use (in_s _ _ _) ?_ <;> (try simp only [go_sem]))
    | (refine E.GB.use (fun h => ?_) (fun h => ?_) <;> (simp only [go_sem, h]) <;> (try simp only [HFS] at h))
    | apply And.intro
    | omega
    | (have q := isLease_til (by assumption); have q1 := inR_of (x := now) (by assumption); omega; done)
    | (have q := isLease_til (by assumption); have q1 : l ≠ noLse := (fun e => by have := q.2.2.2 e; omega); simp_all [holds]; done)
    | (have q := isLease_til (by assumption); have q1 : l = noLse := q.2.2.1 (by omega); simp_all [holds]; done)
    | (simp_all [holds]; done)
    | fail)
theorem canRead_s (c : Clu) (id : Int) (hB : CluB c) : Fn Go.Proofs.Tryz.prog 35 [.a (eClu false c), .c (.v (vi id))] [.a [.d, .d, .d, .d, .d, .d, .d, .d, .d, .d], .c .d] [.c (.v (.bool (canRead c id)))] := by
  refine E.Fn.ev (n := 23) mdG false mix Go.Proofs.Tryz.func35 rfl (by simp [Go.Proofs.Tryz.f35]) Go.Proofs.Tryz.ntmps35 (by simp) (by kernel_rfl) (rs := [.tmp 4]) (tys := [4]) rfl rfl (by simp [finOK, A.ts, OWN, ownE, ownT]) (by simp [resOK, A.ts, OWN, ownE, ownT, DE]) ?_
  simp only [go_sem]
  repeat' (first
    | simp only [IJS]
    | (refine E.CALL.use (primAt_s _ _ ?_) ?_ <;> (try simp only [go_sem]))
    | (refine E.CALL.use (holds_s _ _ _ _) ?_ <;> (try simp only [go_sem]))
    | (refine E.GB.use (fun h => ?_) (fun h => ?_) <;> (simp only [go_sem, h]) <;> (try simp only [HFS] at h))
    | exact E.INDEP.mk2 (by kernel_rfl)
    | (refine E.IX_map ?_ (fun hx => ?_); rotate_left; simp only [go_sem])
    | apply And.intro
    | omega
    | (have q := primAt_log (c := c) (id := id) (by assumption); omega; done)
    | (simp [canRead, srvAt, *]; done)
    | fail)
theorem cutTail_s (l : List LEnt) (hl : l.length ≤ 1048576) : Fn Go.Proofs.Tryz.prog 187 [.c (.s false 7 (l.map eLEnt))] [.c .d] [.c (.v (vi ((cutTail l).1))), .c (.s true 7 (((cutTail l).2).map eLEnt))] := by
  refine E.Fn.ev (n := 18) mdG false mix Go.Proofs.Tryz.func187 rfl (by simp [Go.Proofs.Tryz.f187]) Go.Proofs.Tryz.ntmps187 (by simp) (by kernel_rfl) (rs := [.tmp 2, .tmp 3]) (tys := [3, 74]) rfl rfl (by simp [finOK, A.ts, OWN, ownE, ownT]) (by simp [resOK, A.ts, OWN, ownE, ownT, DE]) ?_
  simp only [go_sem]
  repeat' (first
    | simp only [IJS]
    | (refine E.CALL.use (isLog_s _ ?_) ?_ <;> (try simp only [go_sem]))
    | (refine E.CALL.use (copyL_s _ ?_) ?_ <;> (try simp only [go_sem]))
    | (refine E.GB.use (fun h => ?_) (fun h => ?_) <;> (simp only [go_sem, h]) <;> (try simp only [HFS] at h))
    | apply And.intro
    | omega
    | (simp only [List.length_take, List.length_drop, List.length_append, List.length_set, List.length_cons, List.length_nil]; omega)
    | refine congrArg (List.map _) ?_
    | (exact cutE1 l h; done)
    | (exact cutE2 l h; done)
    | (simp [cutTail, *]; done)
    | fail)
theorem holds_i (l : Lse) (epoch : Int) (holder : Int) (now : Int) : Fn Go.Proofs.Tryz.prog 91 [.a (eLse l), .c (.v (vi epoch)), .c (.v (vi holder)), .c (.v (vi now))] [.a [.d, .d, .d], .c .d, .c .d, .c .d] [.c (.v (.bool (holds l epoch holder now)))] := by
  refine E.Fn.ev (n := 39) mdG false mix Go.Proofs.Tryz.func91 rfl (by simp [Go.Proofs.Tryz.f91]) Go.Proofs.Tryz.ntmps91 (by simp) (by kernel_rfl) (rs := [.tmp 8]) (tys := [4]) rfl rfl (by simp [finOK, A.ts, OWN, ownE, ownT]) (by simp [resOK, A.ts, OWN, ownE, ownT, DE]) ?_
  simp only [go_sem]
  repeat' (first
    | simp only [IJS]
    | (refine E.CALL.use (isLease_i _) ?_ <;> (try simp only [go_sem]))
    | (refine E.CALL.use (in_i _ _ _) ?_ <;> (try simp only [go_sem]))
    | (refine E.GB.use (fun h => ?_) (fun h => ?_) <;> (simp only [go_sem, h]) <;> (try simp only [HFS] at h))
    | apply And.intro
    | omega
    | (have q := isLease_til (by assumption); have q1 := inR_of (x := now) (by assumption); omega; done)
    | (have q1 := isLease_no (by assumption); subst q1; simp [holds]; done)
    | (have q1 := isLease_ne (by assumption); simp_all [holds]; done)
    | (simp_all [holds]; done)
    | fail)
theorem canRead_i (c : Clu) (id : Int) (hB : CluB c) : Fn Go.Proofs.Tryz.prog 44 [.a (eClu false c), .c (.v (vi id))] [.a [.d, .d, .d, .d, .d, .d, .d, .d, .d, .d], .c .d] [.c (.v (.bool (canRead c id)))] := by
  refine E.Fn.ev (n := 23) mdG false mix Go.Proofs.Tryz.func44 rfl (by simp [Go.Proofs.Tryz.f44]) Go.Proofs.Tryz.ntmps44 (by simp) (by kernel_rfl) (rs := [.tmp 4]) (tys := [4]) rfl rfl (by simp [finOK, A.ts, OWN, ownE, ownT]) (by simp [resOK, A.ts, OWN, ownE, ownT, DE]) ?_
  simp only [go_sem]
  repeat' (first
    | simp only [IJS]
    | (refine E.CALL.use (primAt_i _ _ ?_) ?_ <;> (try simp only [go_sem]))
    | (refine E.CALL.use (holds_i _ _ _ _) ?_ <;> (try simp only [go_sem]))
    | (refine E.GB.use (fun h => ?_) (fun h => ?_) <;> (simp only [go_sem, h]) <;> (try simp only [HFS] at h))
    | exact E.INDEP.mk2 (by kernel_rfl)
    | (refine E.IX_map ?_ (fun hx => ?_); rotate_left; simp only [go_sem])
    | apply And.intro
    | omega
    | (have q := primAt_log (c := c) (id := id) (by assumption); omega; done)
    | (simp [canRead, srvAt, *]; done)
    | fail)
theorem cutTail_i (l : List LEnt) (hl : l.length ≤ 1048576) : Fn Go.Proofs.Tryz.prog 170 [.c (.s false 7 (l.map eLEnt))] [.c .d] [.c (.v (vi ((cutTail l).1))), .c (.s true 7 (((cutTail l).2).map eLEnt))] := by
  refine E.Fn.ev (n := 18) mdG false mix Go.Proofs.Tryz.func170 rfl (by simp [Go.Proofs.Tryz.f170]) Go.Proofs.Tryz.ntmps170 (by simp) (by kernel_rfl) (rs := [.tmp 2, .tmp 3]) (tys := [3, 74]) rfl rfl (by simp [finOK, A.ts, OWN, ownE, ownT]) (by simp [resOK, A.ts, OWN, ownE, ownT, DE]) ?_
  simp only [go_sem]
  repeat' (first
    | simp only [IJS]
    | (refine E.CALL.use (isLog_i _ ?_) ?_ <;> (try simp only [go_sem]))
    | (refine E.CALL.use (cloneE_c _ ?_) ?_ <;> (try simp only [go_sem]))
    | (refine E.GB.use (fun h => ?_) (fun h => ?_) <;> (simp only [go_sem, h]) <;> (try simp only [HFS] at h))
    | apply And.intro
    | omega
    | (simp only [List.length_take, List.length_drop, List.length_append, List.length_set, List.length_cons, List.length_nil]; omega)
    | refine congrArg (List.map _) ?_
    | (exact cutE1 l h; done)
    | (exact cutE2 l h; done)
    | (simp [cutTail, *]; done)
    | fail)
theorem findP_c  (e : LEnt) (c s : Int) : Fn Go.Proofs.Tryz.prog 122 [.a (eLEnt e), .q 1 [[.v (vi c)]] 0 0, .q 1 [[.v (vi s)]] 0 0] [.a [.d, .d, .d, .d, .d, .d, .d], .q 1 [[.v (vi c)]] 0 0, .q 1 [[.v (vi s)]] 0 0] [.c (.v (.bool ((e.op.client == c) && (e.op.seq == s))))] := by
  refine E.Fn.ev (n := 17) mdG false mix Go.Proofs.Tryz.func122 rfl (by simp [Go.Proofs.Tryz.f122]) Go.Proofs.Tryz.ntmps122 (by simp) (by kernel_rfl) (rs := [.tmp 4]) (tys := [4]) rfl rfl (by simp [finOK, A.ts, OWN, ownE, ownT]) (by simp [resOK, A.ts, OWN, ownE, ownT, DE]) ?_
  simp only [go_sem]
  repeat' (first
    | simp only [IJS]
    | (refine E.GB.use (fun h => ?_) (fun h => ?_) <;> (simp only [go_sem, h]) <;> (try simp only [HFS] at h))
    | apply And.intro
    | omega
    | fail)
theorem findOp_i (l : List LEnt) (c : Int) (s : Int) (hl : l.length ≤ 1048576) : Fn Go.Proofs.Tryz.prog 64 [.c (.s false 7 (l.map eLEnt)), .c (.v (vi c)), .c (.v (vi s))] [.c .d, .c .d, .c .d] [.c (.v (vi (findOp l c s)))] := by
  refine E.Fn.ev (n := 10) mdG false mix Go.Proofs.Tryz.func64 rfl (by simp [Go.Proofs.Tryz.f64]) Go.Proofs.Tryz.ntmps64 (by simp) (by kernel_rfl) (rs := [.tmp 6]) (tys := [3]) rfl rfl (by simp [finOK, A.ts, OWN, ownE, ownT]) (by simp [resOK, A.ts, OWN, ownE, ownT, DE]) ?_
  simp only [go_sem]
  repeat' (first
    | simp only [IJS]
    | (refine E.CALL.use (idxF_E2 l (fun e => (e.op.client == c) && (e.op.seq == s)) 122 1 [[.v (vi c)]] 1 [[.v (vi s)]] hl (fun e _ => findP_c e c s)) ?_ <;> (try simp only [go_sem]))
    | apply And.intro
    | omega
    | (exact findOp_idx l c s; done)
    | fail)
theorem findOp_s (l : List LEnt) (c : Int) (s : Int) (hl : l.length ≤ 1048576) : Fn Go.Proofs.Tryz.prog 56 [.c (.s false 7 (l.map eLEnt)), .c (.v (vi c)), .c (.v (vi s))] [.c .d, .c .d, .c .d] [.c (.v (vi (findOp l c s)))] := by
  refine E.Fn.ev (n := 33) mdG false mix Go.Proofs.Tryz.func56 rfl (by simp [Go.Proofs.Tryz.f56]) Go.Proofs.Tryz.ntmps56 (by simp) (by kernel_rfl) (rs := [.tmp 6]) (tys := [3]) rfl rfl (by simp [finOK, A.ts, OWN, ownE, ownT]) (by simp [resOK, A.ts, OWN, ownE, ownT, DE]) ?_
  simp only [go_sem]
  repeat' (first
    | simp only [IJS]
    | (refine E.GB.use (fun h => ?_) (fun h => ?_) <;> (simp only [go_sem, h]) <;> (try simp only [HFS] at h))
    | exact E.RK.mk (by kernel_rfl)
    | (refine E.IX_map ?_ (fun hx => ?_); rotate_left; simp only [go_sem])
    | (refine E.loopR (ι := Nat) 2 rfl (fun i => [(.s 7, .v (.c (.v (vi i))))]) [0, 1, 2] [] [] (fun i => (l).length - i) (fun i => i ≤ (l).length ∧ findGo c s i (l.drop i) = findOp l c s) mix (by kernel_rfl) 0 ?_ ?_ (fun i ⟨hi, hR⟩ => ?_); all_goals (try simp (maxSteps := 900000) only [go_sem]); all_goals (try dsimp only at hi hR))
    | (refine E.NEXT.use [] (i + 1) ?_ ?_ ?_; rotate_left 2; focus (simp (maxSteps := 900000) only [go_sem]; (repeat' (first | with_reducible rfl | exact E.RK.mk (by kernel_rfl) | apply And.intro | (push_cast; with_reducible rfl) | (refine E.int_c ?_; omega) | (simp only [go_sem]; done) | (rw [List.map_append]; rfl) | (simp; done) | (simp only [*]; done) | fail)); done))
    | apply And.intro
    | omega
    | (rfl; done)
    | (rw [drop_at (l := l) (i := i) (by omega)] at hR; rw [← hR]; simp [findGo, *]; done)
    | (rw [E.drop_end (l := l) (i := i) (by omega)] at hR; rw [← hR]; rfl; done)
    | fail)
end
end Go.Abs

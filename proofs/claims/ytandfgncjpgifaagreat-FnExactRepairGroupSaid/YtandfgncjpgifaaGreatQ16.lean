/- Contracts of functions of the program, over the abstract machine, and facts for them. No condition. -/
import Derived.Test.YtandfgncjpgifaaGreatFacts
import Derived.Test.YtandfgncjpgifaaGreatPure19
import Derived.Test.YtandfgncjpgifaaGreatQ10
import Derived.Test.YtandfgncjpgifaaGreatQ3
import Derived.Test.YtandfgncjpgifaaGreatQ6
import Derived.Test.YtandfgncjpgifaaGreatQ8
set_option linter.unusedVariables false
set_option linter.unusedSimpArgs false
set_option linter.unnecessarySimpa false
set_option linter.constructorNameAsVariable false
set_option maxHeartbeats 4000000
set_option maxRecDepth 100000
namespace Go.Abs
open Go
attribute [local go_sem ↓] E.argsA_h E.wq_ret E.wq_req E.wq_bad E.wq_call E.wq_get E.wq_getO E.wq_getOs E.wq_getPs E.wq_fresh E.wq_anyNil E.wq_getR0 E.wq_getR E.wq_ixM E.wq_n E.wq_g E.wq_gn E.ev_skip E.ev_region E.ev_draw E.ev_seq E.ev_cond E.ev_block E.ev_exit E.ev_ret E.sq_n E.sq_e E.sq_r E.bl_n E.bl_e E.bl_r E.lp_n E.lp_e E.lp_r E.fk_n E.fk_r E.q_move E.q_assign E.q_pick E.q_bin E.q_binw E.q_un E.q_alloc E.q_box E.q_build E.q_buildS E.q_makeS E.q_load E.q_store E.q_nilCheck E.q_slice E.q_fieldAddr E.q_field E.q_indexAddr E.q_extract E.q_makeFunc E.q_call E.q_callT E.q_len E.q_append E.q_min E.q_max E.q_convert E.q_cap E.q_clear appendIM appendZM E.b_add E.b_sub E.b_mul E.b_eql E.b_neq E.b_lss E.b_leq E.b_gtr E.b_geq E.GO_tmp E.GO_int E.GO_bool E.GO_str E.GO_nil E.GO_func E.GOs_nil E.GOs_cons E.GPs_nil E.GPs_cons E.RW_nil E.RW_cons E.dstAt_0 E.dstAt_s E.keepL_nil E.keepL_s E.keepL_k E.rmN_nil E.rmN_cons E.memN_nil E.memN_cons E.memK_nil E.memK_cons E.ovl_nil E.ovl_kk E.ovl_sk E.ovl_ks E.ovl_ss ofL_s ofL_sk ofL_ks ofL_k ofL_nil E.CO_tmp E.CO_bool
attribute [local go_sem] E.RM_nil E.RM_cons E.kd_k E.sbr_eq E.s3_nil E.s3_s E.s3_k E.vr_c E.vr_a E.vr_p E.vr_q E.vr_t E.vr_f E.vr_u E.cr_r E.cr_v E.cr_b E.cr_n E.cr_u E.crs_nil E.crs_cons E.renK_nil E.renK_cons keysVs V.keys C.keys keysCs E.RG_nil E.RG_cons E.GV_v E.GB_true E.GB_false E.GX_b E.GG_t E.GG_f E.GG_u E.GU_some E.IX_0 E.IX_s E.CX_s E.FR_none E.EN_e E.GVB_b E.b_boolM E.b_nilM E.b_strM E.b_aggM
attribute [local go_sem] List.cons_append List.nil_append List.append_nil List.length_cons List.length_nil List.length_map List.length_append callM E.argsH_nil E.argsH_cons E.argH_c E.argH_a E.argH_f E.cellsH_nil E.cellsH_cons E.cellH_v E.cellH_b E.cellH_n E.cellH_nt E.cellH_u E.cellH_rt E.cellH_rf capsA capA callable backs backT resVs resV resC tupV lenV intV boolV getE getO entryL entryKs A.ts entryV entryC entryCs entryCap List.map_cons List.map_nil E.cut_n E.cut_r E.cutM plainL A.capOK szEs szE szT SZ whole toB toC List.drop_zero List.take_zero List.take_succ_cons List.drop_succ_cons resultsM resultM outM outM1 convs conv finAs finA finT finTs Int.toNat_natCast A.plain T.plain List.isEmpty_nil List.isEmpty_cons Bool.or_true Bool.true_or Bool.and_self List.getElem?_cons_zero List.getElem?_cons_succ Option.bind_some Option.bind_none Option.bind Nat.zero_add Nat.add_zero OWN BOR ONE SCAL DE ETA E.take_rest Int.toNat_zero E.take_map E.drop_map E.take_len1 List.take_length E.app_map Int.natCast_zero Int.sub_zero Int.toNat_sub partCells V.cells convsL appendM srcM E.scalEs_nil E.scalEs_cons E.oneEs_nil E.oneEs_cons List.all_cons List.all_nil T.one Bool.and_true gone ownEs ownE ownT borEs borE borT setRow splice List.set_cons_zero List.set_cons_succ optI getOpt sliceM ptrTo app_ofL T.isV Value.oneCell' fillC zeroC spliceC allV eqVs eqV minV maxV setAt setCell holed List.dropLast List.getLast?_singleton Option.getD_some Option.isSome_some Option.isSome_none Bool.and_false Bool.true_and Bool.false_and Option.map_some Option.map_none false_or true_or or_true rowAt cellAt E.constV_nil E.constV_int E.constV_bool E.constV_str E.setCell_set E.setCell_len setRow setAt List.dropLast_cons_cons List.dropLast_singleton List.getLast?_cons_cons
attribute [local go_sem_proc ↓] reduceIte
attribute [local go_sem_proc] Nat.reduceEqDiff reduceCtorEq Nat.reduceAdd Nat.reduceMul
attribute [local irreducible] E.argsH E.argH E.cellsH E.cellH E.GV E.GB E.GX E.GG E.GU E.IX E.CX E.RW E.FR E.EN E.CALL E.GO E.GOs E.GPs E.GVB E.KD E.RM E.RG E.CO E.WQ E.EV E.SQ E.BL E.LP E.FK E.S3 E.RK E.NEXT E.NQ E.INDEP
section
attribute [local go_sem] mdG_eq mdM toNat_pred setI List.length_set eLI_eq eLE_eq
theorem notSide_c (x : Int) : Fn Go.Proofs.Tryz.prog 200 [.c (.v (vi x))] [.c .d] [.c (.v (.bool (!side x)))] := by
  refine E.Fn.ev (n := 6) mdG false mix Go.Proofs.Tryz.func200 rfl (by simp [Go.Proofs.Tryz.f200]) Go.Proofs.Tryz.ntmps200 (by simp) (by kernel_rfl) (rs := [.tmp 2]) (tys := [4]) rfl rfl (by simp [finOK, A.ts, OWN, ownE, ownT]) (by simp [resOK, A.ts, OWN, ownE, ownT, DE]) ?_
  simp only [go_sem]
  repeat' (first
    | simp only [IJS]
    | (refine E.CALL.use (in_i _ _ _) ?_ <;> (try simp only [go_sem]))
    | (simp [side]; done)
    | fail)
theorem areSides_i (l : List Int) (hl : l.length ≤ 1048576) : Fn Go.Proofs.Tryz.prog 132 [.c (.s false 1 (l.map eInt))] [.c .d] [.c (.v (.bool (areSides l)))] := by
  refine E.Fn.ev (n := 11) mdG false mix Go.Proofs.Tryz.func132 rfl (by simp [Go.Proofs.Tryz.f132]) Go.Proofs.Tryz.ntmps132 (by simp) (by kernel_rfl) (rs := [.tmp 2]) (tys := [4]) rfl rfl (by simp [finOK, A.ts, OWN, ownE, ownT]) (by simp [resOK, A.ts, OWN, ownE, ownT, DE]) ?_
  simp only [go_sem]
  repeat' (first
    | simp only [IJS]
    | (refine E.CALL.use (anyF_I0 l (fun x => !side x) 200 hl (fun x _ => notSide_c x)) ?_ <;> (try simp only [go_sem]))
    | (refine E.GB.use (fun h => ?_) (fun h => ?_) <;> (simp only [go_sem, h]) <;> (try simp only [HFS] at h))
    | (rw [any_not side l, areSides, beq_iff_eq.2 h, Bool.true_and]; done)
    | (simp_all [areSides]; done)
    | fail)
theorem sameSide_i (l : List Int) (a : Int) (b : Int) (hl : l.length ≤ 1048576) : Fn Go.Proofs.Tryz.prog 106 [.c (.s false 1 (l.map eInt)), .c (.v (vi a)), .c (.v (vi b))] [.c .d, .c .d, .c .d] [.c (.v (.bool (sameSide l a b)))] := by
  refine E.Fn.ev (n := 28) mdG false mix Go.Proofs.Tryz.func106 rfl (by simp [Go.Proofs.Tryz.f106]) Go.Proofs.Tryz.ntmps106 (by simp) (by kernel_rfl) (rs := [.tmp 6]) (tys := [4]) rfl rfl (by simp [finOK, A.ts, OWN, ownE, ownT]) (by simp [resOK, A.ts, OWN, ownE, ownT, DE]) ?_
  simp only [go_sem]
  repeat' (first
    | simp only [IJS]
    | (refine E.CALL.use (areSides_i _ ?_) ?_ <;> (try simp only [go_sem]))
    | (refine E.CALL.use (in_i _ _ _) ?_ <;> (try simp only [go_sem]))
    | (refine E.GB.use (fun h => ?_) (fun h => ?_) <;> (simp only [go_sem, h]) <;> (try simp only [HFS] at h))
    | exact E.INDEP.mk2 (by kernel_rfl)
    | (refine E.IX_map ?_ (fun hx => ?_); rotate_left; simp only [go_sem])
    | apply And.intro
    | omega
    | (have q1 := areSides_len (l := l) (by assumption); have q2 := inR_of (x := a) (by assumption); have q3 := inR_of (x := b) (by assumption); omega; done)
    | (simp [sameSide, *]; done)
    | fail)
theorem hasRoom_i (l : List Plc) (id : Int) (hl : l.length ≤ 1048576) : Fn Go.Proofs.Tryz.prog 224 [.c (.s false 3 (l.map ePlc)), .c (.v (vi id))] [.c .d, .c .d] [.c (.v (.bool (hasRoom l id)))] := by
  refine E.Fn.ev (n := 24) mdG false mix Go.Proofs.Tryz.func224 rfl (by simp [Go.Proofs.Tryz.f224]) Go.Proofs.Tryz.ntmps224 (by simp) (by kernel_rfl) (rs := [.tmp 4]) (tys := [4]) rfl rfl (by simp [finOK, A.ts, OWN, ownE, ownT]) (by simp [resOK, A.ts, OWN, ownE, ownT, DE]) ?_
  simp only [go_sem]
  repeat' (first
    | simp only [IJS]
    | (refine E.CALL.use (arePlc_i _ ?_) ?_ <;> (try simp only [go_sem]))
    | (refine E.CALL.use (in_i _ _ _) ?_ <;> (try simp only [go_sem]))
    | (refine E.GB.use (fun h => ?_) (fun h => ?_) <;> (simp only [go_sem, h]) <;> (try simp only [HFS] at h))
    | exact E.INDEP.mk2 (by kernel_rfl)
    | (refine E.IX_map ?_ (fun hx => ?_); rotate_left; simp only [go_sem])
    | apply And.intro
    | omega
    | (have q1 := arePlaces_len (l := l) (by assumption); have q2 := inR_of (x := id) (by assumption); omega; done)
    | (simp [hasRoom, *]; done)
    | fail)
theorem isTail_i (f : Int) (l : List LEnt) (hl : l.length ≤ 1048576) : Fn Go.Proofs.Tryz.prog 203 [.c (.v (vi f)), .c (.s false 7 (l.map eLEnt))] [.c .d, .c .d] [.c (.v (.bool (isTail f l)))] := by
  refine E.Fn.ev (n := 28) mdG false mix Go.Proofs.Tryz.func203 rfl (by simp [Go.Proofs.Tryz.f203]) Go.Proofs.Tryz.ntmps203 (by simp) (by kernel_rfl) (rs := [.tmp 4]) (tys := [4]) rfl rfl (by simp [finOK, A.ts, OWN, ownE, ownT]) (by simp [resOK, A.ts, OWN, ownE, ownT, DE]) ?_
  simp only [go_sem]
  repeat' (first
    | simp only [IJS]
    | (refine E.CALL.use (isLog_i _ ?_) ?_ <;> (try simp only [go_sem]))
    | (refine E.CALL.use (in_i _ _ _) ?_ <;> (try simp only [go_sem]))
    | (refine E.GB.use (fun h => ?_) (fun h => ?_) <;> (simp only [go_sem, h]) <;> (try simp only [HFS] at h))
    | apply And.intro
    | omega
    | (simp_all [isTail]; done)
    | (have h9 : decide ((l.length : Int) ≤ 3) = false := (by simp; omega); simp [isTail, h9]; done)
    | fail)
theorem wrap_id {x : Int} (h1 : -9223372036854775808 ≤ x) (h2 : x ≤ 9223372036854775807) : IntKind.i64.wrap x = x := IntWalk.i64_in x (by omega)
theorem validSrv_i (s : Srv) (id : Int) (hB : SrvB s) : Fn Go.Proofs.Tryz.prog 136 [.a (eSrv false s), .c (.v (vi id))] [.a [.d, .d, .d, .d, .d, .d, .d, .d, .d, .d, .d, .d], .c .d] [.c (.v (.bool (validSrv s id)))] := by
  refine E.Fn.ev (n := 106) mdG true mix Go.Proofs.Tryz.func136 rfl (by simp [Go.Proofs.Tryz.f136]) Go.Proofs.Tryz.ntmps136 (by simp) (by kernel_rfl) (rs := [.tmp 4]) (tys := [4]) rfl rfl (by simp [finOK, A.ts, OWN, ownE, ownT]) (by simp [resOK, A.ts, OWN, ownE, ownT, DE]) ?_
  simp only [go_sem, binM, intBin]
  repeat' (first
    | simp only [IJS]
    | (refine E.CALL.use (eqConf_i_B s.conf noConf ?_ ?_) ?_ <;> (try simp only [go_sem, binM, intBin]))
    | (refine E.CALL.use (in_i _ _ _) ?_ <;> (try simp only [go_sem, binM, intBin]))
    | (refine E.CALL.use (isLog_i _ ?_) ?_ <;> (try simp only [go_sem, binM, intBin]))
    | (refine E.CALL.use (lastE_i _ ?_) ?_ <;> (try simp only [go_sem, binM, intBin]))
    | (refine E.CALL.use (role_i_B _ _ ?_) ?_ <;> (try simp only [go_sem, binM, intBin]))
    | (refine E.CALL.use (isTail_i _ _ ?_) ?_ <;> (try simp only [go_sem, binM, intBin]))
    | (refine E.GB.use (fun h => ?_) (fun h => ?_) <;> (simp only [go_sem, binM, intBin, h]) <;> (try simp only [HFS] at h))
    | exact E.INDEP.mk2 (by kernel_rfl)
    | apply And.intro
    | omega
    | (exact SrvB.conf (by assumption); done)
    | (exact SrvB.log (by assumption); done)
    | (exact SrvB.learned (by assumption); done)
    | (exact ConfB.no; done)
    | (simp_all [validSrv]; done)
    | (have q1 := inR_of (x := s.first) (by assumption); have q9 := isLog_len (l := s.log) (by assumption); simp only [wrap_id (x := s.first + s.log.length) (by omega) (by omega)] at *; have h9 : decide (s.first + s.log.length ≤ 16) = false := (by simp; omega); simp [validSrv, h9]; done)
    | (have q1 := inR_of (x := s.first) (by assumption); have q9 := isLog_len (l := s.log) (by assumption); simp only [wrap_id (x := s.first + s.log.length) (by omega) (by omega)] at *; simp_all [validSrv]; done)
    | (have h9 : decide (s.conf.epoch ≤ s.epoch) = false := (by simp; omega); simp [validSrv, h9, *]; done)
    | (have h9 : decide (lastE s.log ≤ s.conf.epoch) = false := (by simp; omega); simp [validSrv, h9, *]; done)
    | fail)
end
section
attribute [local go_sem] mdG_eq mdM toNat_pred setI List.length_set eLI_eq eLE_eq
theorem primNow_i (s : Srv) (id : Int) (hB : SrvB s) : Fn Go.Proofs.Tryz.prog 184 [.a (eSrv false s), .c (.v (vi id))] [.a [.d, .d, .d, .d, .d, .d, .d, .d, .d, .d, .d, .d], .c .d] [.c (.v (.bool (primNow s id)))] := by
  refine E.Fn.ev (n := 27) mdG false mix Go.Proofs.Tryz.func184 rfl (by simp [Go.Proofs.Tryz.f184]) Go.Proofs.Tryz.ntmps184 (by simp) (by kernel_rfl) (rs := [.tmp 4]) (tys := [4]) rfl rfl (by simp [finOK, A.ts, OWN, ownE, ownT]) (by simp [resOK, A.ts, OWN, ownE, ownT, DE]) ?_
  simp only [go_sem]
  repeat' (first
    | simp only [IJS]
    | (refine E.CALL.use (validSrv_i _ _ ?_) ?_ <;> (try simp only [go_sem]))
    | (refine E.CALL.use (role_i_B _ _ ?_) ?_ <;> (try simp only [go_sem]))
    | (refine E.GB.use (fun h => ?_) (fun h => ?_) <;> (simp only [go_sem, h]) <;> (try simp only [HFS] at h))
    | apply And.intro
    | omega
    | (exact SrvB.conf (by assumption); done)
    | (simp_all [primNow]; done)
    | fail)
theorem validClu_i (c : Clu) (hB : CluB c) : Fn Go.Proofs.Tryz.prog 46 [.a (eClu false c)] [.a [.d, .d, .d, .d, .d, .d, .d, .d, .d, .d]] [.c (.v (.bool (validClu c)))] := by
  refine E.Fn.ev (n := 118) mdG false mix Go.Proofs.Tryz.func46 rfl (by simp [Go.Proofs.Tryz.f46]) Go.Proofs.Tryz.ntmps46 (by simp) (by kernel_rfl) (rs := [.tmp 2]) (tys := [4]) rfl rfl (by simp [finOK, A.ts, OWN, ownE, ownT]) (by simp [resOK, A.ts, OWN, ownE, ownT, DE]) ?_
  simp only [go_sem]
  repeat' (first
    | simp only [IJS]
    | (refine E.CALL.use (eqConf_i_B _ noConf ?_ ?_) ?_ <;> (try simp only [go_sem]))
    | (refine E.CALL.use (in_i _ _ _) ?_ <;> (try simp only [go_sem]))
    | (refine E.CALL.use (areSides_i _ ?_) ?_ <;> (try simp only [go_sem]))
    | (refine E.CALL.use (isML_i_B _ ?_) ?_ <;> (try simp only [go_sem]))
    | (refine E.CALL.use (isLease_i _) ?_ <;> (try simp only [go_sem]))
    | (refine E.CALL.use (arePlc_i _ ?_) ?_ <;> (try simp only [go_sem]))
    | (refine E.CALL.use (validSrv_i _ _ ?_) ?_ <;> (try simp only [go_sem]))
    | (refine E.CALL.use (lastE_i _ ?_) ?_ <;> (try simp only [go_sem]))
    | (refine E.CALL.use (eqConf_i_B _ _ ?_ ?_) ?_ <;> (try simp only [go_sem]))
    | (refine E.CALL.use (confAt_i_B _ _ ?_) ?_ <;> (try simp only [go_sem]))
    | (refine E.GB.use (fun h => ?_) (fun h => ?_) <;> (simp only [go_sem, h]) <;> (try simp only [HFS] at h))
    | exact E.INDEP.mk2 (by kernel_rfl)
    | exact E.RK.mk (by kernel_rfl)
    | (refine E.IX_map ?_ (fun hx => ?_); rotate_left; simp only [go_sem])
    | (refine E.loopR (ι := Nat) 4 rfl (fun i => [(.s 59, .v (.c (.v (vi i))))]) [1, 57, 58] [] [] (fun i => (c.srvs).length - i) (fun i => i ≤ (c.srvs).length ∧ (inR c.now 0 999 && ((c.srvs.length : Int) == 5) && areSides c.sides && isML c.mast && isLease c.lse && arePlaces c.plcs && inR c.mup 0 3 && decide (c.lse.epoch ≤ c.mast.act) && srvsOK c i (c.srvs.drop i)) = validClu c) mix (by kernel_rfl) 0 ?_ ?_ (fun i ⟨hi, hR⟩ => ?_); all_goals (try simp (maxSteps := 900000) only [go_sem]); all_goals (try dsimp only at hi hR))
    | (refine E.NEXT.use [] (i + 1) ?_ ?_ ?_; rotate_left 2; focus (simp (maxSteps := 900000) only [go_sem]; (repeat' (first | with_reducible rfl | exact E.RK.mk (by kernel_rfl) | apply And.intro | (push_cast; with_reducible rfl) | (refine E.int_c ?_; omega) | (simp only [go_sem]; done) | (rw [List.map_append]; rfl) | (simp; done) | (simp only [*]; done) | fail)); done))
    | apply And.intro
    | omega
    | (exact (CluB.at (by assumption) _); done)
    | (exact (CluB.at (by assumption) _).conf; done)
    | (exact (CluB.at (by assumption) _).learned; done)
    | (exact CluB.m (by assumption); done)
    | (exact CluB.sd (by assumption); done)
    | (exact CluB.pl (by assumption); done)
    | (exact (CluB.m (by assumption)).at _; done)
    | (exact ConfB.no; done)
    | (rfl; done)
    | (rw [E.drop_end (l := c.srvs) (i := i) (by omega)] at hR; rw [← hR]; simp_all [srvsOK]; done)
    | (rw [drop_at (l := c.srvs) (i := i) (by omega)] at hR; rw [← hR]; simp_all [srvsOK]; done)
    | (rw [drop_at (l := c.srvs) (i := i) (by omega)] at hR; have h9 : decide ((at' c.srvs i).epoch ≤ c.mast.confs.length) = false := (by simp; omega); rw [← hR]; simp [srvsOK, h9]; done)
    | (rw [drop_at (l := c.srvs) (i := i) (by omega)] at hR; have h9 : decide (lastE (at' c.srvs i).learned ≤ c.mast.act) = false := (by simp; omega); rw [← hR]; simp [srvsOK, h9]; done)
    | (rw [drop_at (l := c.srvs) (i := i) (by omega)] at hR; have h9 : decide ((at' c.srvs i).conf.epoch ≤ c.mast.act) = false := (by simp; omega); rw [← hR]; simp [srvsOK, h9, *]; done)
    | (have h9 : decide (c.lse.epoch ≤ c.mast.act) = false := (by simp; omega); simp [validClu, h9]; done)
    | (simp_all [validClu]; done)
    | fail)
end
section
attribute [local go_sem] mdG_eq mdM toNat_pred setI List.length_set eLI_eq eLE_eq
theorem hasSrv_i (c : Clu) (id : Int) (hB : CluB c) : Fn Go.Proofs.Tryz.prog 142 [.a (eClu false c), .c (.v (vi id))] [.a [.d, .d, .d, .d, .d, .d, .d, .d, .d, .d], .c .d] [.c (.v (.bool (hasSrv c id)))] := by
  refine E.Fn.ev (n := 11) mdG false mix Go.Proofs.Tryz.func142 rfl (by simp [Go.Proofs.Tryz.f142]) Go.Proofs.Tryz.ntmps142 (by simp) (by kernel_rfl) (rs := [.tmp 4]) (tys := [4]) rfl rfl (by simp [finOK, A.ts, OWN, ownE, ownT]) (by simp [resOK, A.ts, OWN, ownE, ownT, DE]) ?_
  simp only [go_sem]
  repeat' (first
    | simp only [IJS]
    | (refine E.CALL.use (validClu_i _ ?_) ?_ <;> (try simp only [go_sem]))
    | (refine E.CALL.use (in_i _ _ _) ?_ <;> (try simp only [go_sem]))
    | (refine E.GB.use (fun h => ?_) (fun h => ?_) <;> (simp only [go_sem, h]) <;> (try simp only [HFS] at h))
    | apply And.intro
    | omega
    | (simp [hasSrv, *]; done)
    | fail)
theorem primAt_i (c : Clu) (id : Int) (hB : CluB c) : Fn Go.Proofs.Tryz.prog 93 [.a (eClu false c), .c (.v (vi id))] [.a [.d, .d, .d, .d, .d, .d, .d, .d, .d, .d], .c .d] [.c (.v (.bool (primAt c id)))] := by
  refine E.Fn.ev (n := 17) mdG false mix Go.Proofs.Tryz.func93 rfl (by simp [Go.Proofs.Tryz.f93]) Go.Proofs.Tryz.ntmps93 (by simp) (by kernel_rfl) (rs := [.tmp 4]) (tys := [4]) rfl rfl (by simp [finOK, A.ts, OWN, ownE, ownT]) (by simp [resOK, A.ts, OWN, ownE, ownT, DE]) ?_
  simp only [go_sem]
  repeat' (first
    | simp only [IJS]
    | (refine E.CALL.use (hasSrv_i _ _ ?_) ?_ <;> (try simp only [go_sem]))
    | (refine E.CALL.use (primNow_i _ _ ?_) ?_ <;> (try simp only [go_sem]))
    | (refine E.GB.use (fun h => ?_) (fun h => ?_) <;> (simp only [go_sem, h]) <;> (try simp only [HFS] at h))
    | (refine E.IX_map ?_ (fun hx => ?_); rotate_left; simp only [go_sem])
    | apply And.intro
    | omega
    | (exact (CluB.at (by assumption) _); done)
    | (have q := hasSrv_of (c := c) (id := id) (by assumption); omega; done)
    | (simp [primAt, srvAt, *]; done)
    | fail)
theorem mw_i (c : Clu) (hm : validClu c = true) : Fn Go.Proofs.Tryz.prog 48 [.a (eClu false c)] [.a [.d, .d, .d, .d, .d, .d, .d, .d, .d, .d]] [.c (.v (.bool (mastersWork c)))] := by
  refine E.Fn.ev (n := 7) mdG false mix Go.Proofs.Tryz.func48 rfl (by simp [Go.Proofs.Tryz.f48]) Go.Proofs.Tryz.ntmps48 (by simp) (by kernel_rfl) (rs := [.tmp 2]) (tys := [4]) rfl rfl (by simp [finOK, A.ts, OWN, ownE, ownT]) (by simp [resOK, A.ts, OWN, ownE, ownT, DE]) ?_
  simp only [go_sem]
  repeat' (first
    | simp only [IJS]
    | apply And.intro
    | omega
    | (have q := validClu_of hm; omega; done)
    | (rfl; done)
    | fail)
end
section
attribute [local go_sem] mdG_eq mdM toNat_pred setI List.length_set eLI_eq eLE_eq
theorem passTime_s (c : Clu) (n : Int) (hB : CluB c) : Fn Go.Proofs.Tryz.prog 78 [.a (eClu false c), .c (.v (vi n))] [.a [.d, .d, .d, .d, .d, .d, .d, .d, .d, .d], .c .d] [.a (eClu true ((passTime c n).1)), .c (.v (vi ((passTime c n).2)))] := by
  refine E.Fn.ev (n := 27) mdG false mix Go.Proofs.Tryz.func78 rfl (by simp [Go.Proofs.Tryz.f78]) Go.Proofs.Tryz.ntmps78 (by simp) (by kernel_rfl) (rs := [.cell 4 40, .tmp 5]) (tys := [40, 3]) rfl rfl (by simp [finOK, A.ts, OWN, ownE, ownT]) (by simp [resOK, A.ts, OWN, ownE, ownT, DE]) ?_
  simp only [go_sem]
  repeat' (first
    | simp only [IJS]
    | (refine E.CALL.use (copyU_s_B _ ?_) ?_ <;> (try simp only [go_sem]))
    | (refine E.CALL.use (validClu_s_B _ ?_) ?_ <;> (try simp only [go_sem]))
    | (refine E.CALL.use (in_s _ _ _) ?_ <;> (try simp only [go_sem]))
    | (refine E.GB.use (fun h => ?_) (fun h => ?_) <;> (simp only [go_sem, h]) <;> (try simp only [HFS] at h))
    | apply And.intro
    | omega
    | refine congrArg (List.map _) ?_
    | (have q := validClu_of (c := c) (by assumption); omega; done)
    | (have q := validClu_of (c := c) (by assumption); have q2 := inR_of (x := n) (by assumption); omega; done)
    | (simp [passTime, *]; done)
    | fail)
theorem passTime_i (c : Clu) (n : Int) (hB : CluB c) : Fn Go.Proofs.Tryz.prog 84 [.a (eClu false c), .c (.v (vi n))] [.a [.d, .d, .d, .d, .d, .d, .d, .d, .d, .d], .c .d] [.a (eClu true ((passTime c n).1)), .c (.v (vi ((passTime c n).2)))] := by
  refine E.Fn.ev (n := 27) mdG false mix Go.Proofs.Tryz.func84 rfl (by simp [Go.Proofs.Tryz.f84]) Go.Proofs.Tryz.ntmps84 (by simp) (by kernel_rfl) (rs := [.cell 4 40, .tmp 5]) (tys := [40, 3]) rfl rfl (by simp [finOK, A.ts, OWN, ownE, ownT]) (by simp [resOK, A.ts, OWN, ownE, ownT, DE]) ?_
  simp only [go_sem]
  repeat' (first
    | simp only [IJS]
    | (refine E.CALL.use (copyU_i_B _ ?_) ?_ <;> (try simp only [go_sem]))
    | (refine E.CALL.use (validClu_i _ ?_) ?_ <;> (try simp only [go_sem]))
    | (refine E.CALL.use (in_i _ _ _) ?_ <;> (try simp only [go_sem]))
    | (refine E.GB.use (fun h => ?_) (fun h => ?_) <;> (simp only [go_sem, h]) <;> (try simp only [HFS] at h))
    | apply And.intro
    | omega
    | refine congrArg (List.map _) ?_
    | (have q := validClu_of (c := c) (by assumption); omega; done)
    | (have q := validClu_of (c := c) (by assumption); have q2 := inR_of (x := n) (by assumption); omega; done)
    | (simp [passTime, *]; done)
    | fail)
theorem upCode_i (c : Clu) (id : Int) (hB : CluB c) : Fn Go.Proofs.Tryz.prog 181 [.a (eClu false c), .c (.v (vi id))] [.a [.d, .d, .d, .d, .d, .d, .d, .d, .d, .d], .c .d] [.c (.v (vi (upCode c id)))] := by
  refine E.Fn.ev (n := 18) mdG false mix Go.Proofs.Tryz.func181 rfl (by simp [Go.Proofs.Tryz.f181]) Go.Proofs.Tryz.ntmps181 (by simp) (by kernel_rfl) (rs := [.tmp 4]) (tys := [3]) rfl rfl (by simp [finOK, A.ts, OWN, ownE, ownT]) (by simp [resOK, A.ts, OWN, ownE, ownT, DE]) ?_
  simp only [go_sem]
  repeat' (first
    | simp only [IJS]
    | (refine E.CALL.use (hasSrv_i _ _ ?_) ?_ <;> (try simp only [go_sem]))
    | (refine E.GB.use (fun h => ?_) (fun h => ?_) <;> (simp only [go_sem, h]) <;> (try simp only [HFS] at h))
    | (refine E.IX_map ?_ (fun hx => ?_); rotate_left; simp only [go_sem])
    | apply And.intro
    | omega
    | (have q := hasSrv_of (c := c) (id := id) (by assumption); omega; done)
    | (simp [upCode, srvAt, *]; done)
    | fail)
theorem upCode_s (c : Clu) (id : Int) (hB : CluB c) : Fn Go.Proofs.Tryz.prog 167 [.a (eClu false c), .c (.v (vi id))] [.a [.d, .d, .d, .d, .d, .d, .d, .d, .d, .d], .c .d] [.c (.v (vi (upCode c id)))] := by
  refine E.Fn.ev (n := 20) mdG false mix Go.Proofs.Tryz.func167 rfl (by simp [Go.Proofs.Tryz.f167]) Go.Proofs.Tryz.ntmps167 (by simp) (by kernel_rfl) (rs := [.tmp 4]) (tys := [3]) rfl rfl (by simp [finOK, A.ts, OWN, ownE, ownT]) (by simp [resOK, A.ts, OWN, ownE, ownT, DE]) ?_
  simp only [go_sem]
  repeat' (first
    | simp only [IJS]
    | (refine E.CALL.use (validClu_s_B _ ?_) ?_ <;> (try simp only [go_sem]))
    | (refine E.CALL.use (in_s _ _ _) ?_ <;> (try simp only [go_sem]))
    | (refine E.GB.use (fun h => ?_) (fun h => ?_) <;> (simp only [go_sem, h]) <;> (try simp only [HFS] at h))
    | (refine E.IX_map ?_ (fun hx => ?_); rotate_left; simp only [go_sem])
    | apply And.intro
    | omega
    | (have q := hasSrv_of (c := c) (id := id) (by simp [hasSrv, *]); omega; done)
    | (simp [upCode, srvAt, hasSrv, *]; done)
    | fail)
end
section
attribute [local go_sem] mdG_eq mdM toNat_pred setI List.length_set eLI_eq eLE_eq
theorem seal_s (s : Srv) (e : Int) (hB : SrvB s) : Fn Go.Proofs.Tryz.prog 120 [.a (eSrv false s), .c (.v (vi e))] [.a [.d, .d, .d, .d, .d, .d, .d, .d, .d, .d, .d, .d], .c .d] [.a (eSrv true ((sealS s e).1)), .c (.v (.bool ((sealS s e).2)))] := by
  refine E.Fn.ev (n := 27) mdG false mix Go.Proofs.Tryz.func120 rfl (by simp [Go.Proofs.Tryz.f120]) Go.Proofs.Tryz.ntmps120 (by simp) (by kernel_rfl) (rs := [.cell 4 66, .tmp 5]) (tys := [66, 4]) rfl rfl (by simp [finOK, A.ts, OWN, ownE, ownT]) (by simp [resOK, A.ts, OWN, ownE, ownT, DE]) ?_
  simp only [go_sem]
  repeat' (first
    | simp only [IJS]
    | (refine E.CALL.use (copyS_s_B _ ?_) ?_ <;> (try simp only [go_sem]))
    | (refine E.CALL.use (in_s _ _ _) ?_ <;> (try simp only [go_sem]))
    | (refine E.GB.use (fun h => ?_) (fun h => ?_) <;> (simp only [go_sem, h]) <;> (try simp only [HFS] at h))
    | apply And.intro
    | omega
    | refine congrArg (List.map _) ?_
    | (simp_all [sealS]; done)
    | (have h9 : decide (s.epoch < e) = false := (by simp; omega); simp [sealS, h9]; done)
    | (have h9 : decide (0 ≤ s.epoch) = false := (by simp; omega); simp [sealS, h9]; done)
    | fail)
theorem seal_i (s : Srv) (e : Int) (hB : SrvB s) : Fn Go.Proofs.Tryz.prog 141 [.a (eSrv false s), .c (.v (vi e))] [.a [.d, .d, .d, .d, .d, .d, .d, .d, .d, .d, .d, .d], .c .d] [.a (eSrv true ((sealS s e).1)), .c (.v (.bool ((sealS s e).2)))] := by
  refine E.Fn.ev (n := 27) mdG false mix Go.Proofs.Tryz.func141 rfl (by simp [Go.Proofs.Tryz.f141]) Go.Proofs.Tryz.ntmps141 (by simp) (by kernel_rfl) (rs := [.cell 4 66, .tmp 5]) (tys := [66, 4]) rfl rfl (by simp [finOK, A.ts, OWN, ownE, ownT]) (by simp [resOK, A.ts, OWN, ownE, ownT, DE]) ?_
  simp only [go_sem]
  repeat' (first
    | simp only [IJS]
    | (refine E.CALL.use (copyS_i_B _ ?_) ?_ <;> (try simp only [go_sem]))
    | (refine E.CALL.use (in_i _ _ _) ?_ <;> (try simp only [go_sem]))
    | (refine E.GB.use (fun h => ?_) (fun h => ?_) <;> (simp only [go_sem, h]) <;> (try simp only [HFS] at h))
    | apply And.intro
    | omega
    | refine congrArg (List.map _) ?_
    | (simp_all [sealS]; done)
    | (have h9 : decide (s.epoch < e) = false := (by simp; omega); simp [sealS, h9]; done)
    | (have h9 : decide (0 ≤ s.epoch) = false := (by simp; omega); simp [sealS, h9]; done)
    | fail)
theorem cutTail_i (l : List LEnt) (hl : l.length ≤ 1048576) : Fn Go.Proofs.Tryz.prog 97 [.c (.s false 7 (l.map eLEnt))] [.c .d] [.c (.v (vi ((cutTail l).1))), .c (.s true 7 (((cutTail l).2).map eLEnt))] := by
  refine E.Fn.ev (n := 18) mdG false mix Go.Proofs.Tryz.func97 rfl (by simp [Go.Proofs.Tryz.f97]) Go.Proofs.Tryz.ntmps97 (by simp) (by kernel_rfl) (rs := [.tmp 2, .tmp 3]) (tys := [3, 64]) rfl rfl (by simp [finOK, A.ts, OWN, ownE, ownT]) (by simp [resOK, A.ts, OWN, ownE, ownT, DE]) ?_
  simp only [go_sem]
  repeat' (first
    | simp only [IJS]
    | (refine E.CALL.use (isLog_i _ ?_) ?_ <;> (try simp only [go_sem]))
    | (refine E.CALL.use (cloneE_c _ ?_) ?_ <;> (try simp only [go_sem]))
    | (refine E.GB.use (fun h => ?_) (fun h => ?_) <;> (simp only [go_sem, h]) <;> (try simp only [HFS] at h))
    | apply And.intro
    | omega
    | (simp only [List.length_take, List.length_drop, List.length_append, List.length_set, List.length_cons, List.length_nil]; omega)
    | refine congrArg (List.map _) ?_
    | (exact cutE1 l h; done)
    | (exact cutE2 l h; done)
    | (simp [cutTail, *]; done)
    | fail)
theorem isNewE_c (e : LEnt) : Fn Go.Proofs.Tryz.prog 150 [.a (eLEnt e)] [.a [.d, .d, .d, .d, .d, .d, .d]] [.c (.v (.bool (isNew e.op)))] := by
  refine E.Fn.ev (n := 6) mdG false mix Go.Proofs.Tryz.func150 rfl (by simp [Go.Proofs.Tryz.f150]) Go.Proofs.Tryz.ntmps150 (by simp) (by kernel_rfl) (rs := [.tmp 2]) (tys := [4]) rfl rfl (by simp [finOK, A.ts, OWN, ownE, ownT]) (by simp [resOK, A.ts, OWN, ownE, ownT, DE]) ?_
  simp only [go_sem]
  repeat' (first
    | simp only [IJS]
    | (refine E.CALL.use (isNew_i _) ?_ <;> (try simp only [go_sem]))
    | apply And.intro
    | omega
    | fail)
theorem hasNew_i (l : List LEnt) (hl : l.length ≤ 1048576) : Fn Go.Proofs.Tryz.prog 56 [.c (.s false 7 (l.map eLEnt))] [.c .d] [.c (.v (.bool (hasNew l)))] := by
  refine E.Fn.ev (n := 5) mdG false mix Go.Proofs.Tryz.func56 rfl (by simp [Go.Proofs.Tryz.f56]) Go.Proofs.Tryz.ntmps56 (by simp) (by kernel_rfl) (rs := [.tmp 2]) (tys := [4]) rfl rfl (by simp [finOK, A.ts, OWN, ownE, ownT]) (by simp [resOK, A.ts, OWN, ownE, ownT, DE]) ?_
  simp only [go_sem]
  repeat' (first
    | simp only [IJS]
    | (refine E.CALL.use (anyF_E0 l (fun e => isNew e.op) 150 hl (fun e _ => isNewE_c e)) ?_ <;> (try simp only [go_sem]))
    | (rfl; done)
    | fail)
theorem hasNew_s (l : List LEnt) (hl : l.length ≤ 1048576) : Fn Go.Proofs.Tryz.prog 37 [.c (.s false 7 (l.map eLEnt))] [.c .d] [.c (.v (.bool (hasNew l)))] := by
  refine E.Fn.ev (n := 16) mdG false mix Go.Proofs.Tryz.func37 rfl (by simp [Go.Proofs.Tryz.f37]) Go.Proofs.Tryz.ntmps37 (by simp) (by kernel_rfl) (rs := [.tmp 2]) (tys := [4]) rfl rfl (by simp [finOK, A.ts, OWN, ownE, ownT]) (by simp [resOK, A.ts, OWN, ownE, ownT, DE]) ?_
  simp only [go_sem]
  repeat' (first
    | simp only [IJS]
    | (refine E.CALL.use (isNew_s _) ?_ <;> (try simp only [go_sem]))
    | (refine E.GB.use (fun h => ?_) (fun h => ?_) <;> (simp only [go_sem, h]) <;> (try simp only [HFS] at h))
    | exact E.RK.mk (by kernel_rfl)
    | (refine E.IX_map ?_ (fun hx => ?_); rotate_left; simp only [go_sem])
    | (refine E.loopR (ι := Nat) 2 rfl (fun i => [(.s 3, .v (.c (.v (vi i))))]) [0] [] [] (fun i => (l).length - i) (fun i => i ≤ (l).length ∧ (l.drop i).any (fun e => isNew e.op) = hasNew l) mix (by kernel_rfl) 0 ?_ ?_ (fun i ⟨hi, hR⟩ => ?_); all_goals (try simp (maxSteps := 900000) only [go_sem]); all_goals (try dsimp only at hi hR))
    | (refine E.NEXT.use [] (i + 1) ?_ ?_ ?_; rotate_left 2; focus (simp (maxSteps := 900000) only [go_sem]; (repeat' (first | with_reducible rfl | exact E.RK.mk (by kernel_rfl) | apply And.intro | (push_cast; with_reducible rfl) | (refine E.int_c ?_; omega) | (simp only [go_sem]; done) | (rw [List.map_append]; rfl) | (simp; done) | (simp only [*]; done) | fail)); done))
    | apply And.intro
    | omega
    | (rfl; done)
    | (rw [drop_at (l := l) (i := i) (by omega)] at hR; simp only [List.any_cons, h, Bool.true_or, Bool.false_or] at hR; exact hR; done)
    | (rw [E.drop_end (l := l) (i := i) (by omega)] at hR; rw [← hR]; rfl; done)
    | fail)
end
section
attribute [local go_sem] mdG_eq mdM toNat_pred setI List.length_set eLI_eq eLE_eq
theorem mside_s (l : List Int) (hl : l.length ≤ 1048576) : Fn Go.Proofs.Tryz.prog 217 [.c (.s false 1 (l.map eInt))] [.c .d] [.c (.s true 1 ((masterSide l).map eInt))] := by
  refine E.Fn.ev (n := 26) mdG false mix Go.Proofs.Tryz.func217 rfl (by simp [Go.Proofs.Tryz.f217]) Go.Proofs.Tryz.ntmps217 (by simp) (by kernel_rfl) (rs := [.tmp 2]) (tys := [23]) rfl rfl (by simp [finOK, A.ts, OWN, ownE, ownT]) (by simp [resOK, A.ts, OWN, ownE, ownT, DE]) ?_
  simp only [go_sem]
  repeat' (first
    | simp only [IJS]
    | (refine E.CALL.use (areSides_s _ ?_) ?_ <;> (try simp only [go_sem]))
    | (refine E.GB.use (fun h => ?_) (fun h => ?_) <;> (simp only [go_sem, h]) <;> (try simp only [HFS] at h))
    | exact E.RK.mk (by kernel_rfl)
    | (refine E.IX_map ?_ (fun hx => ?_); rotate_left; simp only [go_sem])
    | (refine E.loopR (ι := Nat × List Int) 3 rfl (fun ⟨i, out⟩ => [(.s 4, .v (.c (.v (vi i)))), (.s 3, .v (.c (.r (5, 0) 0 [] 0 (out).length))), (.k (5, 0), .e ⟨0, 1, (out).map eInt⟩)]) [0, 2, 25] [(5, 0)] [] (fun ⟨i, out⟩ => l.length - i) (fun ⟨i, out⟩ => i ≤ l.length ∧ out.length ≤ i ∧ (if areSides l then out ++ msGo i (l.drop i) else out) = masterSide l ∧ (areSides l = false → out = [])) mix (by kernel_rfl) (0, []) ?_ ?_ (fun ⟨i, out⟩ ⟨hi, ho, hR, hQ⟩ => ?_); all_goals (try simp (maxSteps := 900000) only [go_sem]); all_goals (try dsimp only at hi ho hR hQ))
    | (refine E.NEXT.use [] (i + 1, out) ?_ ?_ ?_; rotate_left 2; focus (simp (maxSteps := 900000) only [go_sem]; (repeat' (first | with_reducible rfl | exact E.RK.mk (by kernel_rfl) | apply And.intro | (push_cast; with_reducible rfl) | (refine E.int_c ?_; omega) | (simp only [go_sem]; done) | (rw [List.map_append]; rfl) | (simp; done) | (simp only [*]; done) | fail)); done))
    | (refine E.NEXT.use [((5, 0), (24, 0))] (i + 1, out ++ [(i : Int)]) ?_ ?_ ?_; rotate_left 2; focus (simp (maxSteps := 900000) only [go_sem]; (repeat' (first | with_reducible rfl | exact E.RK.mk (by kernel_rfl) | apply And.intro | (push_cast; with_reducible rfl) | (refine E.int_c ?_; omega) | (simp only [go_sem]; done) | (rw [List.map_append]; rfl) | (simp; done) | (simp only [*]; done) | fail)); done))
    | apply And.intro
    | omega
    | (simp only [List.length_take, List.length_drop, List.length_append, List.length_set, List.length_cons, List.length_nil]; omega)
    | refine congrArg (List.map _) ?_
    | (rw [drop_at (l := l) (i := i) (by omega)] at hR; simp only [h, msGo, if_true, if_false, *] at hR; simpa [*] using hR; done)
    | (rw [E.drop_end (l := l) (i := i) (by omega)] at hR; simp only [msGo, List.append_nil, ite_self] at hR; exact hR; done)
    | (simp [*]; done)
    | (simp [masterSide]; done)
    | fail)
theorem ups_s (c : Clu) (hB : CluB c) : Fn Go.Proofs.Tryz.prog 216 [.a (eClu false c)] [.a [.d, .d, .d, .d, .d, .d, .d, .d, .d, .d]] [.c (.s true 1 ((upSrvs c).map eInt))] := by
  refine E.Fn.ev (n := 28) mdG false mix Go.Proofs.Tryz.func216 rfl (by simp [Go.Proofs.Tryz.f216]) Go.Proofs.Tryz.ntmps216 (by simp) (by kernel_rfl) (rs := [.tmp 2]) (tys := [23]) rfl rfl (by simp [finOK, A.ts, OWN, ownE, ownT]) (by simp [resOK, A.ts, OWN, ownE, ownT, DE]) ?_
  simp only [go_sem]
  repeat' (first
    | simp only [IJS]
    | (refine E.CALL.use (validClu_s_B _ ?_) ?_ <;> (try simp only [go_sem]))
    | (refine E.GB.use (fun h => ?_) (fun h => ?_) <;> (simp only [go_sem, h]) <;> (try simp only [HFS] at h))
    | exact E.RK.mk (by kernel_rfl)
    | (refine E.IX_map ?_ (fun hx => ?_); rotate_left; simp only [go_sem])
    | (refine E.loopR (ι := Nat × List Int) 3 rfl (fun ⟨i, out⟩ => [(.s 4, .v (.c (.v (vi i)))), (.s 3, .v (.c (.r (5, 0) 0 [] 0 (out).length))), (.k (5, 0), .e ⟨0, 1, (out).map eInt⟩)]) [1, 2, 27] [(5, 0)] [] (fun ⟨i, out⟩ => c.srvs.length - i) (fun ⟨i, out⟩ => i ≤ c.srvs.length ∧ out.length ≤ i ∧ (if validClu c then out ++ whereGo (fun _ s => s.up) i (c.srvs.drop i) else out) = upSrvs c ∧ (validClu c = false → out = [])) mix (by kernel_rfl) (0, []) ?_ ?_ (fun ⟨i, out⟩ ⟨hi, ho, hR, hQ⟩ => ?_); all_goals (try simp (maxSteps := 900000) only [go_sem]); all_goals (try dsimp only at hi ho hR hQ))
    | (refine E.NEXT.use [] (i + 1, out) ?_ ?_ ?_; rotate_left 2; focus (simp (maxSteps := 900000) only [go_sem]; (repeat' (first | with_reducible rfl | exact E.RK.mk (by kernel_rfl) | apply And.intro | (push_cast; with_reducible rfl) | (refine E.int_c ?_; omega) | (simp only [go_sem]; done) | (rw [List.map_append]; rfl) | (simp; done) | (simp only [*]; done) | fail)); done))
    | (refine E.NEXT.use [((5, 0), (26, 0))] (i + 1, out ++ [(i : Int)]) ?_ ?_ ?_; rotate_left 2; focus (simp (maxSteps := 900000) only [go_sem]; (repeat' (first | with_reducible rfl | exact E.RK.mk (by kernel_rfl) | apply And.intro | (push_cast; with_reducible rfl) | (refine E.int_c ?_; omega) | (simp only [go_sem]; done) | (rw [List.map_append]; rfl) | (simp; done) | (simp only [*]; done) | fail)); done))
    | apply And.intro
    | omega
    | (simp only [List.length_take, List.length_drop, List.length_append, List.length_set, List.length_cons, List.length_nil]; omega)
    | refine congrArg (List.map _) ?_
    | (have q := CluB.sl hB; omega; done)
    | (rw [drop_at (l := c.srvs) (i := i) (by omega)] at hR; simp only [h, whereGo, if_true, if_false, Bool.false_eq_true, *] at hR; simpa [*] using hR; done)
    | (rw [E.drop_end (l := c.srvs) (i := i) (by omega)] at hR; simp only [whereGo, List.append_nil, ite_self] at hR; exact hR; done)
    | (simp [upSrvs, primsNow, srvsWhere]; done)
    | fail)
end
section
attribute [local go_sem] mdG_eq mdM toNat_pred setI List.length_set eLI_eq eLE_eq
theorem hears_eq (c : Clu) (id m : Int) : hears c id m = (sameSide c.sides id m && (at' c.srvs m.toNat).up && ((at' c.srvs m.toNat).epoch == (at' c.srvs id.toNat).epoch) && decide ((at' c.srvs m.toNat).conf = (at' c.srvs id.toNat).conf) && decide ((at' c.srvs m.toNat).commit ≤ (at' c.srvs id.toNat).log.length)) := rfl
theorem hears_i (c : Clu) (id : Int) (m : Int) (hB : CluB c) (hi : hasSrv c id = true) (hm : 0 ≤ m ∧ m ≤ 4) : Fn Go.Proofs.Tryz.prog 95 [.a (eClu false c), .c (.v (vi id)), .c (.v (vi m))] [.a [.d, .d, .d, .d, .d, .d, .d, .d, .d, .d], .c .d, .c .d] [.c (.v (.bool (hears c id m)))] := by
  refine E.Fn.ev (n := 50) mdG false mix Go.Proofs.Tryz.func95 rfl (by simp [Go.Proofs.Tryz.f95]) Go.Proofs.Tryz.ntmps95 (by simp) (by kernel_rfl) (rs := [.tmp 6]) (tys := [4]) rfl rfl (by simp [finOK, A.ts, OWN, ownE, ownT]) (by simp [resOK, A.ts, OWN, ownE, ownT, DE]) ?_
  simp only [go_sem]
  repeat' (first
    | simp only [IJS]
    | (refine E.CALL.use (sameSide_i _ _ _ ?_) ?_ <;> (try simp only [go_sem]))
    | (refine E.CALL.use (eqConf_i_B _ _ ?_ ?_) ?_ <;> (try simp only [go_sem]))
    | (refine E.GB.use (fun h => ?_) (fun h => ?_) <;> (simp only [go_sem, h]) <;> (try simp only [HFS] at h))
    | exact E.INDEP.mk2 (by kernel_rfl)
    | (refine E.IX_map ?_ (fun hx => ?_); rotate_left; simp only [go_sem])
    | apply And.intro
    | omega
    | (have q := hasSrv_of hi; omega; done)
    | (exact (CluB.at (by assumption) _).conf; done)
    | (rw [hears_eq]; simp [*]; done)
    | fail)
theorem hears_s (c : Clu) (id : Int) (m : Int) (hB : CluB c) (hi : hasSrv c id = true) (hm : 0 ≤ m ∧ m ≤ 4) : Fn Go.Proofs.Tryz.prog 89 [.a (eClu false c), .c (.v (vi id)), .c (.v (vi m))] [.a [.d, .d, .d, .d, .d, .d, .d, .d, .d, .d], .c .d, .c .d] [.c (.v (.bool (hears c id m)))] := by
  refine E.Fn.ev (n := 56) mdG false mix Go.Proofs.Tryz.func89 rfl (by simp [Go.Proofs.Tryz.f89]) Go.Proofs.Tryz.ntmps89 (by simp) (by kernel_rfl) (rs := [.tmp 6]) (tys := [4]) rfl rfl (by simp [finOK, A.ts, OWN, ownE, ownT]) (by simp [resOK, A.ts, OWN, ownE, ownT, DE]) ?_
  simp only [go_sem]
  repeat' (first
    | simp only [IJS]
    | (refine E.CALL.use (sameSide_s _ _ _ ?_) ?_ <;> (try simp only [go_sem]))
    | (refine E.CALL.use (eqConf_s_B _ _ ?_ ?_) ?_ <;> (try simp only [go_sem]))
    | (refine E.GB.use (fun h => ?_) (fun h => ?_) <;> (simp only [go_sem, h]) <;> (try simp only [HFS] at h))
    | exact E.INDEP.mk2 (by kernel_rfl)
    | (refine E.IX_map ?_ (fun hx => ?_); rotate_left; simp only [go_sem])
    | apply And.intro
    | omega
    | (have q := hasSrv_of hi; omega; done)
    | (exact (CluB.at (by assumption) _).conf; done)
    | (rw [hears_eq]; simp [*]; done)
    | fail)
end
section
attribute [local go_sem] mdG_eq mdM toNat_pred setI List.length_set eLI_eq eLE_eq
theorem nhears_c  (id : Int) (c : Clu) (x : Conf) (hB : CluB c) (hi : hasSrv c x.primary = true) (hm : 0 ≤ id ∧ id ≤ 4) : Fn Go.Proofs.Tryz.prog 221 [.c (.v (vi id)), .q 10 [eClu false c] 0 0, .q 4 [eConf false x] 0 0] [.c .d, .q 10 [eClu false c] 0 0, .q 4 [eConf false x] 0 0] [.c (.v (.bool (!hears c x.primary id)))] := by
  refine E.Fn.ev (n := 11) mdG false mix Go.Proofs.Tryz.func221 rfl (by simp [Go.Proofs.Tryz.f221]) Go.Proofs.Tryz.ntmps221 (by simp) (by kernel_rfl) (rs := [.tmp 4]) (tys := [4]) rfl rfl (by simp [finOK, A.ts, OWN, ownE, ownT]) (by simp [resOK, A.ts, OWN, ownE, ownT, DE]) ?_
  simp only [go_sem]
  repeat' (first
    | simp only [IJS]
    | (refine E.CALL.use (hears_i _ _ _ ?_ ?_ ?_) ?_ <;> (try simp only [go_sem]))
    | apply And.intro
    | omega
    | fail)
theorem serv_of {c : Clu} {x : Int} (h : primAt c x = true) : hasSrv c x = true := (primAt_of h).1
theorem serv_eq (c : Clu) : servingPrim c = if (lastAct c.mast).2 && primAt c (lastAct c.mast).1.primary && ((at' c.srvs (lastAct c.mast).1.primary.toNat).conf.epoch == (lastAct c.mast).1.epoch) && !((membersOf (lastAct c.mast).1).any fun id => !hears c (lastAct c.mast).1.primary id) then (lastAct c.mast).1.primary else -1 := by
  rw [any_not (fun id => hears c (lastAct c.mast).1.primary id)]; rfl
theorem serv_ge (c : Clu) : servingPrim c = -1 ∨ (0 ≤ servingPrim c ∧ servingPrim c ≤ 4) := by
  unfold servingPrim
  dsimp only
  split
  · rename_i h
    simp only [Bool.and_eq_true] at h
    have := conf_prim (lastAct_of h.1.1.1).2.2.2.1
    exact .inr this
  · exact .inl rfl
theorem servP_i (c : Clu) (hB : CluB c) : Fn Go.Proofs.Tryz.prog 170 [.a (eClu false c)] [.a [.d, .d, .d, .d, .d, .d, .d, .d, .d, .d]] [.c (.v (vi (servingPrim c)))] := by
  refine E.Fn.ev (n := 39) mdG false mix Go.Proofs.Tryz.func170 rfl (by simp [Go.Proofs.Tryz.f170]) Go.Proofs.Tryz.ntmps170 (by simp) (by kernel_rfl) (rs := [.tmp 2]) (tys := [3]) rfl rfl (by simp [finOK, A.ts, OWN, ownE, ownT]) (by simp [resOK, A.ts, OWN, ownE, ownT, DE]) ?_
  simp only [go_sem]
  repeat' (first
    | simp only [IJS]
    | (refine E.CALL.use (anyF_I2 (membersOf (lastAct c.mast).1) (fun id => !hears c (lastAct c.mast).1.primary id) 221 10 [eClu false c] 4 [eConf false (lastAct c.mast).1] ?_ (fun id h => nhears_c id c (lastAct c.mast).1 hB ?_ (members_in h))) ?_ <;> (try simp only [go_sem]))
    | (refine E.CALL.use (lastAct_i_B _ ?_) ?_ <;> (try simp only [go_sem]))
    | (refine E.CALL.use (primAt_i _ _ ?_) ?_ <;> (try simp only [go_sem]))
    | (refine E.CALL.use (members_i_B _ ?_) ?_ <;> (try simp only [go_sem]))
    | (refine E.GB.use (fun h => ?_) (fun h => ?_) <;> (simp only [go_sem, h]) <;> (try simp only [HFS] at h))
    | exact E.INDEP.mk2 (by kernel_rfl)
    | (refine E.IX_map ?_ (fun hx => ?_); rotate_left; simp only [go_sem])
    | apply And.intro
    | omega
    | (have q := primAt_log (c := c) (id := (lastAct c.mast).1.primary) (by assumption); omega; done)
    | (have q := members_len (lastAct c.mast).1; omega; done)
    | (exact serv_of (by assumption); done)
    | (exact CluB.m (by assumption); done)
    | (exact (CluB.m (by assumption)).la; done)
    | (rw [serv_eq]; simp [*]; done)
    | fail)
theorem isServ_i (c : Clu) (hB : CluB c) : Fn Go.Proofs.Tryz.prog 81 [.a (eClu false c)] [.a [.d, .d, .d, .d, .d, .d, .d, .d, .d, .d]] [.c (.v (.bool (isServing c)))] := by
  refine E.Fn.ev (n := 6) mdG false mix Go.Proofs.Tryz.func81 rfl (by simp [Go.Proofs.Tryz.f81]) Go.Proofs.Tryz.ntmps81 (by simp) (by kernel_rfl) (rs := [.tmp 2]) (tys := [4]) rfl rfl (by simp [finOK, A.ts, OWN, ownE, ownT]) (by simp [resOK, A.ts, OWN, ownE, ownT, DE]) ?_
  simp only [go_sem]
  repeat' (first
    | simp only [IJS]
    | (refine E.CALL.use (servP_i _ ?_) ?_ <;> (try simp only [go_sem]))
    | apply And.intro
    | omega
    | (rfl; done)
    | fail)
end
section
attribute [local go_sem] mdG_eq mdM toNat_pred setI List.length_set eLI_eq eLE_eq
theorem primAt_eq (c : Clu) (id : Int) : primAt c id = (hasSrv c id && primNow (at' c.srvs id.toNat) id) := rfl
theorem la_has {c : Clu} (h : validClu c = true) (h2 : (lastAct c.mast).2 = true) : hasSrv c (lastAct c.mast).1.primary = true := by
  have := conf_prim (lastAct_of h2).2.2.2.1
  simp [hasSrv, h, inR_iff, this]
theorem serv_eq2 (c : Clu) (h : validClu c = true) : servingPrim c = if (lastAct c.mast).2 && primNow (at' c.srvs (lastAct c.mast).1.primary.toNat) (lastAct c.mast).1.primary && ((at' c.srvs (lastAct c.mast).1.primary.toNat).conf.epoch == (lastAct c.mast).1.epoch) && (membersOf (lastAct c.mast).1).all (fun id => hears c (lastAct c.mast).1.primary id) then (lastAct c.mast).1.primary else -1 := by
  have e : servingPrim c = if (lastAct c.mast).2 && primAt c (lastAct c.mast).1.primary && ((at' c.srvs (lastAct c.mast).1.primary.toNat).conf.epoch == (lastAct c.mast).1.epoch) && (membersOf (lastAct c.mast).1).all (fun id => hears c (lastAct c.mast).1.primary id) then (lastAct c.mast).1.primary else -1 := rfl
  rw [e]
  by_cases h2 : (lastAct c.mast).2 = true
  · rw [primAt_eq, la_has h h2]; simp [h2]
  · simp [h2]
theorem serv_no (c : Clu) (h : validClu c = false) : servingPrim c = -1 := by
  unfold servingPrim
  dsimp only
  rw [if_neg]
  intro h2
  simp only [Bool.and_eq_true] at h2
  have := (hasSrv_of (primAt_of h2.1.1.2).1).1
  rw [h] at this; simp at this
theorem servP_s (c : Clu) (hB : CluB c) : Fn Go.Proofs.Tryz.prog 161 [.a (eClu false c)] [.a [.d, .d, .d, .d, .d, .d, .d, .d, .d, .d]] [.c (.v (vi (servingPrim c)))] := by
  refine E.Fn.ev (n := 64) mdG false mix Go.Proofs.Tryz.func161 rfl (by simp [Go.Proofs.Tryz.f161]) Go.Proofs.Tryz.ntmps161 (by simp) (by kernel_rfl) (rs := [.tmp 2]) (tys := [3]) rfl rfl (by simp [finOK, A.ts, OWN, ownE, ownT]) (by simp [resOK, A.ts, OWN, ownE, ownT, DE]) ?_
  simp only [go_sem]
  repeat' (first
    | simp only [IJS]
    | (refine E.CALL.use (lastAct_s_B _ ?_) ?_ <;> (try simp only [go_sem]))
    | (refine E.CALL.use (validClu_s_B _ ?_) ?_ <;> (try simp only [go_sem]))
    | (refine E.CALL.use (primNow_s_B _ _ ?_) ?_ <;> (try simp only [go_sem]))
    | (refine E.CALL.use (members_s_B _ ?_) ?_ <;> (try simp only [go_sem]))
    | (refine E.CALL.use (hears_s _ _ _ ?_ ?_ ?_) ?_ <;> (try simp only [go_sem]))
    | (refine E.GB.use (fun h => ?_) (fun h => ?_) <;> (simp only [go_sem, h]) <;> (try simp only [HFS] at h))
    | exact E.INDEP.mk2 (by kernel_rfl)
    | exact E.RK.mk (by kernel_rfl)
    | (refine E.IX_map ?_ (fun hx => ?_); rotate_left; simp only [go_sem])
    | (refine E.loopR (ι := Nat) 6 rfl (fun i => [(.s 6, .v (.c (.v (vi i))))]) [1, 3, 5, 62, 63] [] [] (fun i => (membersOf (lastAct c.mast).1).length - i) (fun i => i ≤ (membersOf (lastAct c.mast).1).length ∧ (if ((membersOf (lastAct c.mast).1).drop i).all (fun id => hears c (lastAct c.mast).1.primary id) then (lastAct c.mast).1.primary else -1) = servingPrim c) mix (by kernel_rfl) 0 ?_ ?_ (fun i ⟨hi, hR⟩ => ?_); all_goals (try simp (maxSteps := 900000) only [go_sem]); all_goals (try dsimp only at hi hR))
    | (refine E.NEXT.use [] (i + 1) ?_ ?_ ?_; rotate_left 2; focus (simp (maxSteps := 900000) only [go_sem]; (repeat' (first | with_reducible rfl | exact E.RK.mk (by kernel_rfl) | apply And.intro | (push_cast; with_reducible rfl) | (refine E.int_c ?_; omega) | (simp only [go_sem]; done) | (rw [List.map_append]; rfl) | (simp; done) | (simp only [*]; done) | fail)); done))
    | apply And.intro
    | omega
    | (have q := members_len (lastAct c.mast).1; omega; done)
    | (have q := validClu_of (c := c) (by assumption); have q2 := conf_prim (lastAct_of (m := c.mast) (by assumption)).2.2.2.1; omega; done)
    | (exact la_has (by assumption) (by assumption); done)
    | (exact (members_in (E.at_mem (by omega))).1; done)
    | (exact (members_in (E.at_mem (by omega))).2; done)
    | (exact (CluB.at (by assumption) _); done)
    | (exact CluB.m (by assumption); done)
    | (exact (CluB.m (by assumption)).la; done)
    | (rw [drop_at (l := membersOf (lastAct c.mast).1) (i := i) (by omega)] at hR; rw [← hR]; simp [*]; done)
    | (rw [E.drop_end (l := membersOf (lastAct c.mast).1) (i := i) (by omega)] at hR; rw [← hR]; simp; done)
    | (exact (serv_no c (by assumption)).symm; done)
    | (rw [serv_eq2 c (by assumption)]; simp [*]; done)
    | fail)
theorem isServ_s (c : Clu) (hB : CluB c) : Fn Go.Proofs.Tryz.prog 74 [.a (eClu false c)] [.a [.d, .d, .d, .d, .d, .d, .d, .d, .d, .d]] [.c (.v (.bool (isServing c)))] := by
  refine E.Fn.ev (n := 6) mdG false mix Go.Proofs.Tryz.func74 rfl (by simp [Go.Proofs.Tryz.f74]) Go.Proofs.Tryz.ntmps74 (by simp) (by kernel_rfl) (rs := [.tmp 2]) (tys := [4]) rfl rfl (by simp [finOK, A.ts, OWN, ownE, ownT]) (by simp [resOK, A.ts, OWN, ownE, ownT, DE]) ?_
  simp only [go_sem]
  repeat' (first
    | simp only [IJS]
    | (refine E.CALL.use (servP_s _ ?_) ?_ <;> (try simp only [go_sem]))
    | apply And.intro
    | omega
    | (have q := serv_ge c; simp only [isServing]; rw [Bool.eq_iff_iff]; simp; omega; done)
    | fail)
end
section
attribute [local go_sem] mdG_eq mdM toNat_pred setI List.length_set eLI_eq eLE_eq
theorem hasEp_i (c : Clu) (id : Int) (o : Int) (e : Int) (hB : CluB c) (hl : c.srvs.length = 5) (hm : 0 ≤ o ∧ o ≤ 4) : Fn Go.Proofs.Tryz.prog 205 [.a (eClu false c), .c (.v (vi id)), .c (.v (vi o)), .c (.v (vi e))] [.a [.d, .d, .d, .d, .d, .d, .d, .d, .d, .d], .c .d, .c .d, .c .d] [.c (.v (.bool (hasEpoch c id o e)))] := by
  refine E.Fn.ev (n := 31) mdG false mix Go.Proofs.Tryz.func205 rfl (by simp [Go.Proofs.Tryz.f205]) Go.Proofs.Tryz.ntmps205 (by simp) (by kernel_rfl) (rs := [.tmp 8]) (tys := [4]) rfl rfl (by simp [finOK, A.ts, OWN, ownE, ownT]) (by simp [resOK, A.ts, OWN, ownE, ownT, DE]) ?_
  simp only [go_sem]
  repeat' (first
    | simp only [IJS]
    | (refine E.CALL.use (sameSide_i _ _ _ ?_) ?_ <;> (try simp only [go_sem]))
    | (refine E.GB.use (fun h => ?_) (fun h => ?_) <;> (simp only [go_sem, h]) <;> (try simp only [HFS] at h))
    | (refine E.IX_map ?_ (fun hx => ?_); rotate_left; simp only [go_sem])
    | apply And.intro
    | omega
    | (exact CluB.sd (by assumption); done)
    | (simp [hasEpoch, srvAt, *]; done)
    | fail)
theorem sources_i (c : Clu) (id : Int) (hB : CluB c) : Fn Go.Proofs.Tryz.prog 204 [.a (eClu false c), .c (.v (vi id))] [.a [.d, .d, .d, .d, .d, .d, .d, .d, .d, .d], .c .d] [.c (.s true 1 ((sourcesFor c id).map eInt))] := by
  refine E.Fn.ev (n := 45) mdG false mix Go.Proofs.Tryz.func204 rfl (by simp [Go.Proofs.Tryz.f204]) Go.Proofs.Tryz.ntmps204 (by simp) (by kernel_rfl) (rs := [.tmp 4]) (tys := [23]) rfl rfl (by simp [finOK, A.ts, OWN, ownE, ownT]) (by simp [resOK, A.ts, OWN, ownE, ownT, DE]) ?_
  simp only [go_sem]
  repeat' (first
    | simp only [IJS]
    | (refine E.CALL.use (lastAct_i_B _ ?_) ?_ <;> (try simp only [go_sem]))
    | (refine E.CALL.use (hasSrv_i _ _ ?_) ?_ <;> (try simp only [go_sem]))
    | (refine E.CALL.use (hasEp_i _ _ _ _ ?_ ?_ ?_) ?_ <;> (try simp only [go_sem]))
    | (refine E.GB.use (fun h => ?_) (fun h => ?_) <;> (simp only [go_sem, h]) <;> (try simp only [HFS] at h))
    | exact E.RK.mk (by kernel_rfl)
    | (refine E.IX_map ?_ (fun hx => ?_); rotate_left; simp only [go_sem])
    | (refine E.loopR (ι := Nat × List Int) 6 rfl (fun ⟨i, out⟩ => [(.s 29, .v (.c (.v (vi i)))), (.s 5, .v (.c (.r (10, 0) 0 [] 0 (out).length))), (.k (10, 0), .e ⟨0, 1, (out).map eInt⟩)]) [1, 2, 4, 6, 27, 28, 44] [(10, 0)] [] (fun ⟨i, out⟩ => ((lastAct c.mast).1.reps).length - i) (fun ⟨i, out⟩ => i ≤ ((lastAct c.mast).1.reps).length ∧ out.length ≤ i ∧ out ++ (((lastAct c.mast).1.reps).drop i).filter (fun o => hasEpoch c id o (lastAct c.mast).1.epoch) = sourcesFor c id) mix (by kernel_rfl) (0, []) ?_ ?_ (fun ⟨i, out⟩ ⟨hi, ho, hR⟩ => ?_); all_goals (try simp (maxSteps := 900000) only [go_sem]); all_goals (try dsimp only at hi ho hR))
    | (refine E.NEXT.use [] (i + 1, out) ?_ ?_ ?_; rotate_left 2; focus (simp (maxSteps := 900000) only [go_sem]; (repeat' (first | with_reducible rfl | exact E.RK.mk (by kernel_rfl) | apply And.intro | (push_cast; with_reducible rfl) | (refine E.int_c ?_; omega) | (simp only [go_sem]; done) | (rw [List.map_append]; rfl) | (simp; done) | (simp only [*]; done) | fail)); done))
    | (refine E.NEXT.use [((10, 0), (42, 0))] (i + 1, out ++ [at' (lastAct c.mast).1.reps i]) ?_ ?_ ?_; rotate_left 2; focus (simp (maxSteps := 900000) only [go_sem]; (repeat' (first | with_reducible rfl | exact E.RK.mk (by kernel_rfl) | apply And.intro | (push_cast; with_reducible rfl) | (refine E.int_c ?_; omega) | (simp only [go_sem]; done) | (rw [List.map_append]; rfl) | (simp; done) | (simp only [*]; done) | fail)); done))
    | apply And.intro
    | omega
    | (simp only [List.length_take, List.length_drop, List.length_append, List.length_set, List.length_cons, List.length_nil]; omega)
    | refine congrArg (List.map _) ?_
    | (have q := CluB.m hB; have q2 := q.la.r; omega; done)
    | (have q := hasSrv_of (c := c) (id := id) (by assumption); have q2 := conf_rep (lastAct_of (m := c.mast) (by assumption)).2.2.2.1 (E.at_mem (l := (lastAct c.mast).1.reps) (i := i) (by omega)); omega; done)
    | (rw [drop_at (l := (lastAct c.mast).1.reps) (i := i) (by omega)] at hR; simp only [List.filter_cons, h, if_true, if_false, Bool.false_eq_true] at hR; simpa using hR; done)
    | (rw [E.drop_end (l := (lastAct c.mast).1.reps) (i := i) (by omega)] at hR; simpa using hR; done)
    | (simp [sourcesFor, *]; done)
    | fail)
theorem hasEpoch_eq (c : Clu) (id o e : Int) : hasEpoch c id o e = ((at' c.srvs o.toNat).up && sameSide c.sides id o && ((at' c.srvs o.toNat).conf.epoch == e)) := rfl
theorem sources_s (c : Clu) (id : Int) (hB : CluB c) : Fn Go.Proofs.Tryz.prog 191 [.a (eClu false c), .c (.v (vi id))] [.a [.d, .d, .d, .d, .d, .d, .d, .d, .d, .d], .c .d] [.c (.s true 1 ((sourcesFor c id).map eInt))] := by
  refine E.Fn.ev (n := 74) mdG false mix Go.Proofs.Tryz.func191 rfl (by simp [Go.Proofs.Tryz.f191]) Go.Proofs.Tryz.ntmps191 (by simp) (by kernel_rfl) (rs := [.tmp 4]) (tys := [23]) rfl rfl (by simp [finOK, A.ts, OWN, ownE, ownT]) (by simp [resOK, A.ts, OWN, ownE, ownT, DE]) ?_
  simp only [go_sem]
  repeat' (first
    | simp only [IJS]
    | (refine E.CALL.use (lastAct_s_B _ ?_) ?_ <;> (try simp only [go_sem]))
    | (refine E.CALL.use (validClu_s_B _ ?_) ?_ <;> (try simp only [go_sem]))
    | (refine E.CALL.use (in_s _ _ _) ?_ <;> (try simp only [go_sem]))
    | (refine E.CALL.use (sameSide_s _ _ _ ?_) ?_ <;> (try simp only [go_sem]))
    | (refine E.GB.use (fun h => ?_) (fun h => ?_) <;> (simp only [go_sem, h]) <;> (try simp only [HFS] at h))
    | exact E.INDEP.mk2 (by kernel_rfl)
    | exact E.RK.mk (by kernel_rfl)
    | (refine E.IX_map ?_ (fun hx => ?_); rotate_left; simp only [go_sem])
    | (refine E.loopR (ι := Nat × List Int) 4 rfl (fun ⟨i, out⟩ => [(.s 8, .v (.c (.v (vi i)))), (.s 5, .v (.c (.r (10, 0) 0 [] 0 (out).length))), (.k (10, 0), .e ⟨0, 1, (out).map eInt⟩)]) [1, 2, 4, 6, 7, 73] [(10, 0)] [] (fun ⟨i, out⟩ => ((lastAct c.mast).1.reps).length - i) (fun ⟨i, out⟩ => i ≤ ((lastAct c.mast).1.reps).length ∧ out.length ≤ i ∧ (if (lastAct c.mast).2 && hasSrv c id then out ++ (((lastAct c.mast).1.reps).drop i).filter (fun o => hasEpoch c id o (lastAct c.mast).1.epoch) else out) = sourcesFor c id ∧ ((lastAct c.mast).2 && hasSrv c id) = ((lastAct c.mast).2 && validClu c && inR id 0 4) ∧ (((lastAct c.mast).2 && hasSrv c id) = false → out = [])) mix (by kernel_rfl) (0, []) ?_ ?_ (fun ⟨i, out⟩ ⟨hi, ho, hR, hV, hN⟩ => ?_); all_goals (try simp (maxSteps := 900000) only [go_sem]); all_goals (try dsimp only at hi ho hR hV hN))
    | (refine E.NEXT.use [] (i + 1, out) ?_ ?_ ?_; rotate_left 2; focus (simp (maxSteps := 900000) only [go_sem]; (repeat' (first | with_reducible rfl | exact E.RK.mk (by kernel_rfl) | apply And.intro | (push_cast; with_reducible rfl) | (refine E.int_c ?_; omega) | (simp only [go_sem]; done) | (rw [List.map_append]; rfl) | (simp; done) | (simp only [*]; done) | fail)); done))
    | (refine E.NEXT.use [((10, 0), (72, 0))] (i + 1, out ++ [at' (lastAct c.mast).1.reps i]) ?_ ?_ ?_; rotate_left 2; focus (simp (maxSteps := 900000) only [go_sem]; (repeat' (first | with_reducible rfl | exact E.RK.mk (by kernel_rfl) | apply And.intro | (push_cast; with_reducible rfl) | (refine E.int_c ?_; omega) | (simp only [go_sem]; done) | (rw [List.map_append]; rfl) | (simp; done) | (simp only [*]; done) | fail)); done))
    | apply And.intro
    | omega
    | (simp only [List.length_take, List.length_drop, List.length_append, List.length_set, List.length_cons, List.length_nil]; omega)
    | refine congrArg (List.map _) ?_
    | (have q := CluB.m hB; have q2 := q.la.r; omega; done)
    | (have q := validClu_of (c := c) (by assumption); have q2 := conf_rep (lastAct_of (m := c.mast) (by assumption)).2.2.2.1 (E.at_mem (l := (lastAct c.mast).1.reps) (i := i) (by omega)); omega; done)
    | (exact CluB.sd (by assumption); done)
    | (have e : ((lastAct c.mast).2 && hasSrv c id) = true := (by simp only [hasSrv, Bool.and_eq_true]; exact ⟨by assumption, by assumption, by assumption⟩); rw [if_pos e] at hR ⊢; clear hV hN; rw [drop_at (l := (lastAct c.mast).1.reps) (i := i) (by omega)] at hR; have g : hasEpoch c id (at' (lastAct c.mast).1.reps i) (lastAct c.mast).1.epoch = true := (by rw [hasEpoch_eq]; clear hR; simp [*]); simp only [List.filter_cons, g, if_true, if_false, Bool.false_eq_true] at hR; simpa using hR; done)
    | (have e : ((lastAct c.mast).2 && hasSrv c id) = true := (by simp only [hasSrv, Bool.and_eq_true]; exact ⟨by assumption, by assumption, by assumption⟩); rw [if_pos e] at hR ⊢; clear hV hN; rw [drop_at (l := (lastAct c.mast).1.reps) (i := i) (by omega)] at hR; have g : hasEpoch c id (at' (lastAct c.mast).1.reps i) (lastAct c.mast).1.epoch = false := (by rw [hasEpoch_eq]; clear hR; simp [*]); simp only [List.filter_cons, g, if_true, if_false, Bool.false_eq_true] at hR; simpa using hR; done)
    | (rw [E.drop_end (l := (lastAct c.mast).1.reps) (i := i) (by omega)] at hR; simpa using hR; done)
    | (rw [← hR]; simp [hasSrv, *]; done)
    | (simp [sourcesFor, hasSrv, *]; done)
    | (simp [hasSrv, Bool.and_assoc]; done)
    | fail)
end
section
attribute [local go_sem] mdG_eq mdM toNat_pred setI List.length_set eLI_eq eLE_eq
theorem comPart_i (s : Srv) (hB : SrvB s) : Fn Go.Proofs.Tryz.prog 234 [.a (eSrv false s)] [.a [.d, .d, .d, .d, .d, .d, .d, .d, .d, .d, .d, .d]] [.c (.s true 7 ((comPart s).map eLEnt))] := by
  refine E.Fn.ev (n := 30) mdG true mix Go.Proofs.Tryz.func234 rfl (by simp [Go.Proofs.Tryz.f234]) Go.Proofs.Tryz.ntmps234 (by simp) (by kernel_rfl) (rs := [.tmp 2]) (tys := [64]) rfl rfl (by simp [finOK, A.ts, OWN, ownE, ownT]) (by simp [resOK, A.ts, OWN, ownE, ownT, DE]) ?_
  simp only [go_sem, binM, intBin]
  repeat' (first
    | simp only [IJS]
    | (refine E.CALL.use (in_i _ _ _) ?_ <;> (try simp only [go_sem, binM, intBin]))
    | (refine E.CALL.use (cloneE_c _ ?_) ?_ <;> (try simp only [go_sem, binM, intBin]))
    | (refine E.GB.use (fun h => ?_) (fun h => ?_) <;> (simp only [go_sem, binM, intBin, h]) <;> (try simp only [HFS] at h))
    | apply And.intro
    | omega
    | refine congrArg (List.map _) ?_
    | (have q := com_ok (by omega) (by assumption) hB.log; have q2 := hB.log; omega; done)
    | (have q2 := hB.log; rw [List.length_take]; omega; done)
    | (simp [comPart, *]; done)
    | (have q := com_ok (by omega) (by assumption) hB.log; rw [q.2.2]; simp [comPart, *]; omega; done)
    | fail)
theorem comPart_s (s : Srv) (hB : SrvB s) : Fn Go.Proofs.Tryz.prog 229 [.a (eSrv false s)] [.a [.d, .d, .d, .d, .d, .d, .d, .d, .d, .d, .d, .d]] [.c (.s true 7 ((comPart s).map eLEnt))] := by
  refine E.Fn.ev (n := 30) mdG true mix Go.Proofs.Tryz.func229 rfl (by simp [Go.Proofs.Tryz.f229]) Go.Proofs.Tryz.ntmps229 (by simp) (by kernel_rfl) (rs := [.tmp 2]) (tys := [64]) rfl rfl (by simp [finOK, A.ts, OWN, ownE, ownT]) (by simp [resOK, A.ts, OWN, ownE, ownT, DE]) ?_
  simp only [go_sem, binM, intBin]
  repeat' (first
    | simp only [IJS]
    | (refine E.CALL.use (in_s _ _ _) ?_ <;> (try simp only [go_sem, binM, intBin]))
    | (refine E.CALL.use (copyL_s _ ?_) ?_ <;> (try simp only [go_sem, binM, intBin]))
    | (refine E.GB.use (fun h => ?_) (fun h => ?_) <;> (simp only [go_sem, binM, intBin, h]) <;> (try simp only [HFS] at h))
    | apply And.intro
    | omega
    | refine congrArg (List.map _) ?_
    | (have q := com_ok (by omega) (by assumption) hB.log; have q2 := hB.log; omega; done)
    | (have q2 := hB.log; rw [List.length_take]; omega; done)
    | (simp [comPart, *]; done)
    | (have q := com_ok (by omega) (by assumption) hB.log; rw [q.2.2]; simp [comPart, *]; omega; done)
    | fail)
theorem isRep_i (s : Srv) (id : Int) (hB : SrvB s) : Fn Go.Proofs.Tryz.prog 187 [.a (eSrv false s), .c (.v (vi id))] [.a [.d, .d, .d, .d, .d, .d, .d, .d, .d, .d, .d, .d], .c .d] [.c (.v (.bool (isRep s id)))] := by
  refine E.Fn.ev (n := 10) mdG false mix Go.Proofs.Tryz.func187 rfl (by simp [Go.Proofs.Tryz.f187]) Go.Proofs.Tryz.ntmps187 (by simp) (by kernel_rfl) (rs := [.tmp 4]) (tys := [4]) rfl rfl (by simp [finOK, A.ts, OWN, ownE, ownT]) (by simp [resOK, A.ts, OWN, ownE, ownT, DE]) ?_
  simp only [go_sem]
  repeat' (first
    | simp only [IJS]
    | (refine E.CALL.use (has_i _ _ ?_) ?_ <;> (try simp only [go_sem]))
    | apply And.intro
    | omega
    | (exact (SrvB.conf (by assumption)).r; done)
    | (rfl; done)
    | fail)
end
section
attribute [local go_sem] mdG_eq mdM toNat_pred setI List.length_set mdL_eq E.b_rem decE_self decN_self
theorem eqOp_l (a : ROp) (b : ROp) : Fn Go.Proofs.Tryz.prog 244 [.a (eROp a), .a (eROp b)] [.a [.d, .d, .d, .d, .d, .d], .a [.d, .d, .d, .d, .d, .d]] [.c (.v (.bool (decide (a = b))))] := by
  refine E.Fn.ev (n := 35) mdL false mix Go.Proofs.Tryz.func244 rfl (by simp [Go.Proofs.Tryz.f244]) Go.Proofs.Tryz.ntmps244 (by simp) (by kernel_rfl) (rs := [.tmp 4]) (tys := [4]) rfl rfl (by simp [finOK, A.ts, OWN, ownE, ownT]) (by simp [resOK, A.ts, OWN, ownE, ownT, DE]) ?_
  simp only [go_sem]
  repeat' (first
    | simp only [IJS]
    | (refine E.GB.use (fun h => ?_) (fun h => ?_) <;> (simp only [go_sem, h]) <;> (try simp only [HFS] at h))
    | apply And.intro
    | omega
    | (symm; rw [decide_eq_true_eq]; cases a; cases b; simp_all; done)
    | (symm; rw [decide_eq_false_iff_not]; intro e; subst e; simp_all; done)
    | fail)
theorem eqEnt_l (a : LEnt) (b : LEnt) : Fn Go.Proofs.Tryz.prog 238 [.a (eLEnt a), .a (eLEnt b)] [.a [.d, .d, .d, .d, .d, .d, .d], .a [.d, .d, .d, .d, .d, .d, .d]] [.c (.v (.bool (decide (a = b))))] := by
  refine E.Fn.ev (n := 16) mdL false mix Go.Proofs.Tryz.func238 rfl (by simp [Go.Proofs.Tryz.f238]) Go.Proofs.Tryz.ntmps238 (by simp) (by kernel_rfl) (rs := [.tmp 4]) (tys := [4]) rfl rfl (by simp [finOK, A.ts, OWN, ownE, ownT]) (by simp [resOK, A.ts, OWN, ownE, ownT, DE]) ?_
  simp only [go_sem]
  repeat' (first
    | simp only [IJS]
    | (refine E.CALL.use (eqOp_l _ _) ?_ <;> (try simp only [go_sem]))
    | (refine E.GB.use (fun h => ?_) (fun h => ?_) <;> (simp only [go_sem, h]) <;> (try simp only [HFS] at h))
    | apply And.intro
    | omega
    | (symm; rw [decide_eq_true_eq]; cases a; cases b; simp_all; done)
    | (symm; rw [decide_eq_false_iff_not]; intro e; subst e; simp_all; done)
    | fail)
theorem eqPlc_l (a : Plc) (b : Plc) : Fn Go.Proofs.Tryz.prog 156 [.a (ePlc a), .a (ePlc b)] [.a [.d, .d, .d], .a [.d, .d, .d]] [.c (.v (.bool (decide (a = b))))] := by
  refine E.Fn.ev (n := 20) mdL false mix Go.Proofs.Tryz.func156 rfl (by simp [Go.Proofs.Tryz.f156]) Go.Proofs.Tryz.ntmps156 (by simp) (by kernel_rfl) (rs := [.tmp 4]) (tys := [4]) rfl rfl (by simp [finOK, A.ts, OWN, ownE, ownT]) (by simp [resOK, A.ts, OWN, ownE, ownT, DE]) ?_
  simp only [go_sem]
  repeat' (first
    | simp only [IJS]
    | (refine E.GB.use (fun h => ?_) (fun h => ?_) <;> (simp only [go_sem, h]) <;> (try simp only [HFS] at h))
    | apply And.intro
    | omega
    | (symm; rw [decide_eq_true_eq]; cases a; cases b; simp_all; done)
    | (symm; rw [decide_eq_false_iff_not]; intro e; subst e; simp_all; done)
    | fail)
theorem eqLse_l (a : Lse) (b : Lse) : Fn Go.Proofs.Tryz.prog 63 [.a (eLse a), .a (eLse b)] [.a [.d, .d, .d], .a [.d, .d, .d]] [.c (.v (.bool (decide (a = b))))] := by
  refine E.Fn.ev (n := 20) mdL false mix Go.Proofs.Tryz.func63 rfl (by simp [Go.Proofs.Tryz.f63]) Go.Proofs.Tryz.ntmps63 (by simp) (by kernel_rfl) (rs := [.tmp 4]) (tys := [4]) rfl rfl (by simp [finOK, A.ts, OWN, ownE, ownT]) (by simp [resOK, A.ts, OWN, ownE, ownT, DE]) ?_
  simp only [go_sem]
  repeat' (first
    | simp only [IJS]
    | (refine E.GB.use (fun h => ?_) (fun h => ?_) <;> (simp only [go_sem, h]) <;> (try simp only [HFS] at h))
    | apply And.intro
    | omega
    | (symm; rw [decide_eq_true_eq]; cases a; cases b; simp_all; done)
    | (symm; rw [decide_eq_false_iff_not]; intro e; subst e; simp_all; done)
    | fail)
theorem eqE_l (a : List LEnt) (b : List LEnt) (ha : a.length ≤ 1048576) (hb : b.length ≤ 1048576) : Fn Go.Proofs.Tryz.prog 215 [.c (.s false 7 (a.map eLEnt)), .c (.s false 7 (b.map eLEnt))] [.c .d, .c .d] [.c (.v (.bool (decide (a = b))))] := by
  refine E.Fn.ev (n := 27) mdL false mix Go.Proofs.Tryz.func215 rfl (by simp [Go.Proofs.Tryz.f215]) Go.Proofs.Tryz.ntmps215 (by simp) (by kernel_rfl) (rs := [.tmp 4]) (tys := [4]) rfl rfl (by simp [finOK, A.ts, OWN, ownE, ownT]) (by simp [resOK, A.ts, OWN, ownE, ownT, DE]) ?_
  simp only [go_sem]
  repeat' (first
    | simp only [IJS]
    | (refine E.CALL.use (eqEnt_l _ _) ?_ <;> (try simp only [go_sem]))
    | (refine E.GB.use (fun h => ?_) (fun h => ?_) <;> (simp only [go_sem, h]) <;> (try simp only [HFS] at h))
    | exact E.INDEP.mk2 (by kernel_rfl)
    | exact E.RK.mk (by kernel_rfl)
    | (refine E.IX_map ?_ (fun hx => ?_); rotate_left; simp only [go_sem])
    | (refine E.loopR (ι := Nat) 4 rfl (fun i => [(.s 5, .v (.c (.v (vi i))))]) [0, 1] [] [] (fun i => a.length - i) (fun i => i ≤ a.length ∧ a.length = b.length ∧ decide (a.drop i = b.drop i) = decide (a = b)) mix (by kernel_rfl) 0 ?_ ?_ (fun i ⟨hi, hl, hR⟩ => ?_); all_goals (try simp (maxSteps := 900000) only [go_sem]); all_goals (try dsimp only at hi hl hR))
    | (refine E.NEXT.use [] (i + 1) ?_ ?_ ?_; rotate_left 2; focus (simp (maxSteps := 900000) only [go_sem]; (repeat' (first | with_reducible rfl | exact E.RK.mk (by kernel_rfl) | apply And.intro | (push_cast; with_reducible rfl) | (refine E.int_c ?_; omega) | (simp only [go_sem]; done) | (rw [List.map_append]; rfl) | (simp; done) | (simp only [*]; done) | fail)); done))
    | apply And.intro
    | omega
    | (exact eqS_1 (by omega) (by omega) h hR; done)
    | (exact eqS_0 (by omega) (by omega) h hR; done)
    | (exact eqS_e (by omega) (by omega) hR; done)
    | (exact eqS_n (by omega); done)
    | fail)
theorem eqP_l (a : List Plc) (b : List Plc) (ha : a.length ≤ 1048576) (hb : b.length ≤ 1048576) : Fn Go.Proofs.Tryz.prog 64 [.c (.s false 3 (a.map ePlc)), .c (.s false 3 (b.map ePlc))] [.c .d, .c .d] [.c (.v (.bool (decide (a = b))))] := by
  refine E.Fn.ev (n := 27) mdL false mix Go.Proofs.Tryz.func64 rfl (by simp [Go.Proofs.Tryz.f64]) Go.Proofs.Tryz.ntmps64 (by simp) (by kernel_rfl) (rs := [.tmp 4]) (tys := [4]) rfl rfl (by simp [finOK, A.ts, OWN, ownE, ownT]) (by simp [resOK, A.ts, OWN, ownE, ownT, DE]) ?_
  simp only [go_sem]
  repeat' (first
    | simp only [IJS]
    | (refine E.CALL.use (eqPlc_l _ _) ?_ <;> (try simp only [go_sem]))
    | (refine E.GB.use (fun h => ?_) (fun h => ?_) <;> (simp only [go_sem, h]) <;> (try simp only [HFS] at h))
    | exact E.INDEP.mk2 (by kernel_rfl)
    | exact E.RK.mk (by kernel_rfl)
    | (refine E.IX_map ?_ (fun hx => ?_); rotate_left; simp only [go_sem])
    | (refine E.loopR (ι := Nat) 4 rfl (fun i => [(.s 5, .v (.c (.v (vi i))))]) [0, 1] [] [] (fun i => a.length - i) (fun i => i ≤ a.length ∧ a.length = b.length ∧ decide (a.drop i = b.drop i) = decide (a = b)) mix (by kernel_rfl) 0 ?_ ?_ (fun i ⟨hi, hl, hR⟩ => ?_); all_goals (try simp (maxSteps := 900000) only [go_sem]); all_goals (try dsimp only at hi hl hR))
    | (refine E.NEXT.use [] (i + 1) ?_ ?_ ?_; rotate_left 2; focus (simp (maxSteps := 900000) only [go_sem]; (repeat' (first | with_reducible rfl | exact E.RK.mk (by kernel_rfl) | apply And.intro | (push_cast; with_reducible rfl) | (refine E.int_c ?_; omega) | (simp only [go_sem]; done) | (rw [List.map_append]; rfl) | (simp; done) | (simp only [*]; done) | fail)); done))
    | apply And.intro
    | omega
    | (exact eqS_1 (by omega) (by omega) h hR; done)
    | (exact eqS_0 (by omega) (by omega) h hR; done)
    | (exact eqS_e (by omega) (by omega) hR; done)
    | (exact eqS_n (by omega); done)
    | fail)
end
end Go.Abs

/- Contracts of functions of the program, over the abstract machine, and facts for them. No condition. -/
import Derived.Test.YtandfgncjpgifaaGreatFacts
import Derived.Test.YtandfgncjpgifaaGreatPure19
import Derived.Test.YtandfgncjpgifaaGreatQ10
import Derived.Test.YtandfgncjpgifaaGreatQ16
import Derived.Test.YtandfgncjpgifaaGreatQ3
import Derived.Test.YtandfgncjpgifaaGreatQ6
import Derived.Test.YtandfgncjpgifaaGreatQ8
set_option linter.unusedVariables false
set_option linter.unusedSimpArgs false
set_option linter.unnecessarySimpa false
set_option linter.constructorNameAsVariable false
set_option maxHeartbeats 4000000
set_option maxRecDepth 100000
namespace Go.Abs
open Go
attribute [local go_sem ↓] E.argsA_h E.wq_ret E.wq_req E.wq_bad E.wq_call E.wq_get E.wq_getO E.wq_getOs E.wq_getPs E.wq_fresh E.wq_anyNil E.wq_getR0 E.wq_getR E.wq_ixM E.wq_n E.wq_g E.wq_gn E.ev_skip E.ev_region E.ev_draw E.ev_seq E.ev_cond E.ev_block E.ev_exit E.ev_ret E.sq_n E.sq_e E.sq_r E.bl_n E.bl_e E.bl_r E.lp_n E.lp_e E.lp_r E.fk_n E.fk_r E.q_move E.q_assign E.q_pick E.q_bin E.q_binw E.q_un E.q_alloc E.q_box E.q_build E.q_buildS E.q_makeS E.q_load E.q_store E.q_nilCheck E.q_slice E.q_fieldAddr E.q_field E.q_indexAddr E.q_extract E.q_makeFunc E.q_call E.q_callT E.q_len E.q_append E.q_min E.q_max E.q_convert E.q_cap E.q_clear appendIM appendZM E.b_add E.b_sub E.b_mul E.b_eql E.b_neq E.b_lss E.b_leq E.b_gtr E.b_geq E.GO_tmp E.GO_int E.GO_bool E.GO_str E.GO_nil E.GO_func E.GOs_nil E.GOs_cons E.GPs_nil E.GPs_cons E.RW_nil E.RW_cons E.dstAt_0 E.dstAt_s E.keepL_nil E.keepL_s E.keepL_k E.rmN_nil E.rmN_cons E.memN_nil E.memN_cons E.memK_nil E.memK_cons E.ovl_nil E.ovl_kk E.ovl_sk E.ovl_ks E.ovl_ss ofL_s ofL_sk ofL_ks ofL_k ofL_nil E.CO_tmp E.CO_bool
attribute [local go_sem] E.RM_nil E.RM_cons E.kd_k E.sbr_eq E.s3_nil E.s3_s E.s3_k E.vr_c E.vr_a E.vr_p E.vr_q E.vr_t E.vr_f E.vr_u E.cr_r E.cr_v E.cr_b E.cr_n E.cr_u E.crs_nil E.crs_cons E.renK_nil E.renK_cons keysVs V.keys C.keys keysCs E.RG_nil E.RG_cons E.GV_v E.GB_true E.GB_false E.GX_b E.GG_t E.GG_f E.GG_u E.GU_some E.IX_0 E.IX_s E.CX_s E.FR_none E.EN_e E.GVB_b E.b_boolM E.b_nilM E.b_strM E.b_aggM
attribute [local go_sem] List.cons_append List.nil_append List.append_nil List.length_cons List.length_nil List.length_map List.length_append callM E.argsH_nil E.argsH_cons E.argH_c E.argH_a E.argH_f E.cellsH_nil E.cellsH_cons E.cellH_v E.cellH_b E.cellH_n E.cellH_nt E.cellH_u E.cellH_rt E.cellH_rf capsA capA callable backs backT resVs resV resC tupV lenV intV boolV getE getO entryL entryKs A.ts entryV entryC entryCs entryCap List.map_cons List.map_nil E.cut_n E.cut_r E.cutM plainL A.capOK szEs szE szT SZ whole toB toC List.drop_zero List.take_zero List.take_succ_cons List.drop_succ_cons resultsM resultM outM outM1 convs conv finAs finA finT finTs Int.toNat_natCast A.plain T.plain List.isEmpty_nil List.isEmpty_cons Bool.or_true Bool.true_or Bool.and_self List.getElem?_cons_zero List.getElem?_cons_succ Option.bind_some Option.bind_none Option.bind Nat.zero_add Nat.add_zero OWN BOR ONE SCAL DE ETA E.take_rest Int.toNat_zero E.take_map E.drop_map E.take_len1 List.take_length E.app_map Int.natCast_zero Int.sub_zero Int.toNat_sub partCells V.cells convsL appendM srcM E.scalEs_nil E.scalEs_cons E.oneEs_nil E.oneEs_cons List.all_cons List.all_nil T.one Bool.and_true gone ownEs ownE ownT borEs borE borT setRow splice List.set_cons_zero List.set_cons_succ optI getOpt sliceM ptrTo app_ofL T.isV Value.oneCell' fillC zeroC spliceC allV eqVs eqV minV maxV setAt setCell holed List.dropLast List.getLast?_singleton Option.getD_some Option.isSome_some Option.isSome_none Bool.and_false Bool.true_and Bool.false_and Option.map_some Option.map_none false_or true_or or_true rowAt cellAt E.constV_nil E.constV_int E.constV_bool E.constV_str E.setCell_set E.setCell_len setRow setAt List.dropLast_cons_cons List.dropLast_singleton List.getLast?_cons_cons
attribute [local go_sem_proc ↓] reduceIte
attribute [local go_sem_proc] Nat.reduceEqDiff reduceCtorEq Nat.reduceAdd Nat.reduceMul
attribute [local irreducible] E.argsH E.argH E.cellsH E.cellH E.GV E.GB E.GX E.GG E.GU E.IX E.CX E.RW E.FR E.EN E.CALL E.GO E.GOs E.GPs E.GVB E.KD E.RM E.RG E.CO E.WQ E.EV E.SQ E.BL E.LP E.FK E.S3 E.RK E.NEXT E.NQ E.INDEP
section
attribute [local go_sem] mdG_eq mdM toNat_pred setI List.length_set mdL_eq E.b_rem decE_self decN_self
theorem eqC_l (a : Conf) (b : Conf) (ha : ConfB a) (hb : ConfB b) : Fn Go.Proofs.Tryz.prog 214 [.a (eConf false a), .a (eConf false b)] [.a [.d, .d, .d, .d], .a [.d, .d, .d, .d]] [.c (.v (.bool (decide (a = b))))] := by
  refine E.Fn.ev (n := 27) mdL false mix Go.Proofs.Tryz.func214 rfl (by simp [Go.Proofs.Tryz.f214]) Go.Proofs.Tryz.ntmps214 (by simp) (by kernel_rfl) (rs := [.tmp 4]) (tys := [4]) rfl rfl (by simp [finOK, A.ts, OWN, ownE, ownT]) (by simp [resOK, A.ts, OWN, ownE, ownT, DE]) ?_
  simp only [go_sem]
  repeat' (first
    | simp only [IJS]
    | (refine E.CALL.use (eqIntS_l _ _ ?_ ?_) ?_ <;> (try simp only [go_sem]))
    | (refine E.GB.use (fun h => ?_) (fun h => ?_) <;> (simp only [go_sem, h]) <;> (try simp only [HFS] at h))
    | apply And.intro
    | omega
    | (exact ConfB.r (by assumption); done)
    | (exact ConfB.w (by assumption); done)
    | (symm; rw [decide_eq_true_eq]; cases a; cases b; simp_all; done)
    | (symm; rw [decide_eq_false_iff_not]; intro e; subst e; simp_all; done)
    | fail)
theorem eqCs_l (a : List Conf) (b : List Conf) (ha : a.length ≤ 1048576) (hb : b.length ≤ 1048576) (ga : ∀ x ∈ a, ConfB x) (gb : ∀ x ∈ b, ConfB x) : Fn Go.Proofs.Tryz.prog 155 [.c (.s false 4 (a.map (eConf false))), .c (.s false 4 (b.map (eConf false)))] [.c .d, .c .d] [.c (.v (.bool (decide (a = b))))] := by
  refine E.Fn.ev (n := 27) mdL false mix Go.Proofs.Tryz.func155 rfl (by simp [Go.Proofs.Tryz.f155]) Go.Proofs.Tryz.ntmps155 (by simp) (by kernel_rfl) (rs := [.tmp 4]) (tys := [4]) rfl rfl (by simp [finOK, A.ts, OWN, ownE, ownT]) (by simp [resOK, A.ts, OWN, ownE, ownT, DE]) ?_
  simp only [go_sem]
  repeat' (first
    | simp only [IJS]
    | (refine E.CALL.use (eqC_l _ _ ?_ ?_) ?_ <;> (try simp only [go_sem]))
    | (refine E.GB.use (fun h => ?_) (fun h => ?_) <;> (simp only [go_sem, h]) <;> (try simp only [HFS] at h))
    | exact E.INDEP.mk2 (by kernel_rfl)
    | exact E.RK.mk (by kernel_rfl)
    | (refine E.IX_map ?_ (fun hx => ?_); rotate_left; simp only [go_sem])
    | (refine E.loopR (ι := Nat) 4 rfl (fun i => [(.s 5, .v (.c (.v (vi i))))]) [0, 1] [] [] (fun i => a.length - i) (fun i => i ≤ a.length ∧ a.length = b.length ∧ decide (a.drop i = b.drop i) = decide (a = b)) mix (by kernel_rfl) 0 ?_ ?_ (fun i ⟨hi, hl, hR⟩ => ?_); all_goals (try simp (maxSteps := 900000) only [go_sem]); all_goals (try dsimp only at hi hl hR))
    | (refine E.NEXT.use [] (i + 1) ?_ ?_ ?_; rotate_left 2; focus (simp (maxSteps := 900000) only [go_sem]; (repeat' (first | with_reducible rfl | exact E.RK.mk (by kernel_rfl) | apply And.intro | (push_cast; with_reducible rfl) | (refine E.int_c ?_; omega) | (simp only [go_sem]; done) | (rw [List.map_append]; rfl) | (simp; done) | (simp only [*]; done) | fail)); done))
    | apply And.intro
    | omega
    | (exact ga _ (E.at_mem (by omega)); done)
    | (exact gb _ (E.at_mem (by omega)); done)
    | (exact eqS_1 (by omega) (by omega) h hR; done)
    | (exact eqS_0 (by omega) (by omega) h hR; done)
    | (exact eqS_e (by omega) (by omega) hR; done)
    | (exact eqS_n (by omega); done)
    | fail)
theorem eqM_l (a : MLog) (b : MLog) (ha : MLB a) (hb : MLB b) : Fn Go.Proofs.Tryz.prog 62 [.a (eMLog false a), .a (eMLog false b)] [.a [.d, .d], .a [.d, .d]] [.c (.v (.bool (decide (a = b))))] := by
  refine E.Fn.ev (n := 16) mdL false mix Go.Proofs.Tryz.func62 rfl (by simp [Go.Proofs.Tryz.f62]) Go.Proofs.Tryz.ntmps62 (by simp) (by kernel_rfl) (rs := [.tmp 4]) (tys := [4]) rfl rfl (by simp [finOK, A.ts, OWN, ownE, ownT]) (by simp [resOK, A.ts, OWN, ownE, ownT, DE]) ?_
  simp only [go_sem]
  repeat' (first
    | simp only [IJS]
    | (refine E.CALL.use (eqCs_l _ _ ?_ ?_ ?_ ?_) ?_ <;> (try simp only [go_sem]))
    | (refine E.GB.use (fun h => ?_) (fun h => ?_) <;> (simp only [go_sem, h]) <;> (try simp only [HFS] at h))
    | apply And.intro
    | omega
    | (exact ha.len; done)
    | (exact hb.len; done)
    | (exact ha.confs; done)
    | (exact hb.confs; done)
    | (symm; rw [decide_eq_true_eq]; cases a; cases b; simp_all; done)
    | (symm; rw [decide_eq_false_iff_not]; intro e; subst e; simp_all; done)
    | fail)
theorem eqS_l (a : Srv) (b : Srv) (ha : SrvB a) (hb : SrvB b) : Fn Go.Proofs.Tryz.prog 154 [.a (eSrv false a), .a (eSrv false b)] [.a [.d, .d, .d, .d, .d, .d, .d, .d, .d, .d, .d, .d], .a [.d, .d, .d, .d, .d, .d, .d, .d, .d, .d, .d, .d]] [.c (.v (.bool (decide (a = b))))] := by
  refine E.Fn.ev (n := 53) mdL false mix Go.Proofs.Tryz.func154 rfl (by simp [Go.Proofs.Tryz.f154]) Go.Proofs.Tryz.ntmps154 (by simp) (by kernel_rfl) (rs := [.tmp 4]) (tys := [4]) rfl rfl (by simp [finOK, A.ts, OWN, ownE, ownT]) (by simp [resOK, A.ts, OWN, ownE, ownT, DE]) ?_
  simp only [go_sem]
  repeat' (first
    | simp only [IJS]
    | (refine E.CALL.use (eqC_l _ _ ?_ ?_) ?_ <;> (try simp only [go_sem]))
    | (refine E.CALL.use (eqE_l _ _ ?_ ?_) ?_ <;> (try simp only [go_sem]))
    | (refine E.GB.use (fun h => ?_) (fun h => ?_) <;> (simp only [go_sem, h]) <;> (try simp only [HFS] at h))
    | apply And.intro
    | omega
    | (exact SrvB.conf (by assumption); done)
    | (exact SrvB.log (by assumption); done)
    | (exact SrvB.learned (by assumption); done)
    | (symm; rw [decide_eq_true_eq]; cases a; cases b; simp_all; done)
    | (symm; rw [decide_eq_false_iff_not]; intro e; subst e; simp_all; done)
    | fail)
theorem eqSs_l (a : List Srv) (b : List Srv) (ha : a.length ≤ 1048576) (hb : b.length ≤ 1048576) (ga : ∀ x ∈ a, SrvB x) (gb : ∀ x ∈ b, SrvB x) : Fn Go.Proofs.Tryz.prog 60 [.c (.s false 12 (a.map (eSrv false))), .c (.s false 12 (b.map (eSrv false)))] [.c .d, .c .d] [.c (.v (.bool (decide (a = b))))] := by
  refine E.Fn.ev (n := 27) mdL false mix Go.Proofs.Tryz.func60 rfl (by simp [Go.Proofs.Tryz.f60]) Go.Proofs.Tryz.ntmps60 (by simp) (by kernel_rfl) (rs := [.tmp 4]) (tys := [4]) rfl rfl (by simp [finOK, A.ts, OWN, ownE, ownT]) (by simp [resOK, A.ts, OWN, ownE, ownT, DE]) ?_
  simp only [go_sem]
  repeat' (first
    | simp only [IJS]
    | (refine E.CALL.use (eqS_l _ _ ?_ ?_) ?_ <;> (try simp only [go_sem]))
    | (refine E.GB.use (fun h => ?_) (fun h => ?_) <;> (simp only [go_sem, h]) <;> (try simp only [HFS] at h))
    | exact E.INDEP.mk2 (by kernel_rfl)
    | exact E.RK.mk (by kernel_rfl)
    | (refine E.IX_map ?_ (fun hx => ?_); rotate_left; simp only [go_sem])
    | (refine E.loopR (ι := Nat) 4 rfl (fun i => [(.s 5, .v (.c (.v (vi i))))]) [0, 1] [] [] (fun i => a.length - i) (fun i => i ≤ a.length ∧ a.length = b.length ∧ decide (a.drop i = b.drop i) = decide (a = b)) mix (by kernel_rfl) 0 ?_ ?_ (fun i ⟨hi, hl, hR⟩ => ?_); all_goals (try simp (maxSteps := 900000) only [go_sem]); all_goals (try dsimp only at hi hl hR))
    | (refine E.NEXT.use [] (i + 1) ?_ ?_ ?_; rotate_left 2; focus (simp (maxSteps := 900000) only [go_sem]; (repeat' (first | with_reducible rfl | exact E.RK.mk (by kernel_rfl) | apply And.intro | (push_cast; with_reducible rfl) | (refine E.int_c ?_; omega) | (simp only [go_sem]; done) | (rw [List.map_append]; rfl) | (simp; done) | (simp only [*]; done) | fail)); done))
    | apply And.intro
    | omega
    | (exact ga _ (E.at_mem (by omega)); done)
    | (exact gb _ (E.at_mem (by omega)); done)
    | (exact eqS_1 (by omega) (by omega) h hR; done)
    | (exact eqS_0 (by omega) (by omega) h hR; done)
    | (exact eqS_e (by omega) (by omega) hR; done)
    | (exact eqS_n (by omega); done)
    | fail)
theorem eqU_l (a : Clu) (b : Clu) (ha : CluB a) (hb : CluB b) : Fn Go.Proofs.Tryz.prog 13 [.a (eClu false a), .a (eClu false b)] [.a [.d, .d, .d, .d, .d, .d, .d, .d, .d, .d], .a [.d, .d, .d, .d, .d, .d, .d, .d, .d, .d]] [.c (.v (.bool (decide (a = b))))] := by
  refine E.Fn.ev (n := 45) mdL false mix Go.Proofs.Tryz.func13 rfl (by simp [Go.Proofs.Tryz.f13]) Go.Proofs.Tryz.ntmps13 (by simp) (by kernel_rfl) (rs := [.tmp 4]) (tys := [4]) rfl rfl (by simp [finOK, A.ts, OWN, ownE, ownT]) (by simp [resOK, A.ts, OWN, ownE, ownT, DE]) ?_
  simp only [go_sem]
  repeat' (first
    | simp only [IJS]
    | (refine E.CALL.use (eqSs_l _ _ ?_ ?_ ?_ ?_) ?_ <;> (try simp only [go_sem]))
    | (refine E.CALL.use (eqIntS_l _ _ ?_ ?_) ?_ <;> (try simp only [go_sem]))
    | (refine E.CALL.use (eqM_l _ _ ?_ ?_) ?_ <;> (try simp only [go_sem]))
    | (refine E.CALL.use (eqLse_l _ _) ?_ <;> (try simp only [go_sem]))
    | (refine E.CALL.use (eqP_l _ _ ?_ ?_) ?_ <;> (try simp only [go_sem]))
    | (refine E.GB.use (fun h => ?_) (fun h => ?_) <;> (simp only [go_sem, h]) <;> (try simp only [HFS] at h))
    | apply And.intro
    | omega
    | (exact CluB.m (by assumption); done)
    | (exact CluB.sd (by assumption); done)
    | (exact CluB.pl (by assumption); done)
    | (exact CluB.sl (by assumption); done)
    | (exact ha.srvs; done)
    | (exact hb.srvs; done)
    | (symm; rw [decide_eq_true_eq]; cases a; cases b; simp_all; done)
    | (symm; rw [decide_eq_false_iff_not]; intro e; subst e; simp_all; done)
    | fail)
end
section
attribute [local go_sem] mdG_eq mdM toNat_pred setI List.length_set mdL_eq E.b_rem decE_self decN_self
theorem szI_l (l : List Int) (left : Int) (hl : l.length ≤ maxLen) (h0 : 0 ≤ left) (h1 : left ≤ 1048576) : Fn Go.Proofs.Tryz.prog 27 [.c (.s false 1 (l.map eInt)), .c (.v (vi left))] [.c .d, .c .d] [.c (.v (vi (szR left l.length)))] := by
  refine E.Fn.ev (n := 12) mdL false mix Go.Proofs.Tryz.func27 rfl (by simp [Go.Proofs.Tryz.f27]) Go.Proofs.Tryz.ntmps27 (by simp) (by kernel_rfl) (rs := [.tmp 4]) (tys := [3]) rfl rfl (by simp [finOK, A.ts, OWN, ownE, ownT]) (by simp [resOK, A.ts, OWN, ownE, ownT, DE]) ?_
  simp only [go_sem]
  repeat' (first
    | simp only [IJS]
    | (refine E.GB.use (fun h => ?_) (fun h => ?_) <;> (simp only [go_sem, h]) <;> (try simp only [HFS] at h))
    | apply And.intro
    | omega
    | (have q : l.length ≤ 9223372036854775807 := hl; omega; done)
    | ((unfold szR; omega); done)
    | fail)
theorem szE_l (l : List LEnt) (left : Int) (hl : l.length ≤ maxLen) (h0 : 0 ≤ left) (h1 : left ≤ 1048576) : Fn Go.Proofs.Tryz.prog 190 [.c (.s false 7 (l.map eLEnt)), .c (.v (vi left))] [.c .d, .c .d] [.c (.v (vi (szR left l.length)))] := by
  refine E.Fn.ev (n := 12) mdL false mix Go.Proofs.Tryz.func190 rfl (by simp [Go.Proofs.Tryz.f190]) Go.Proofs.Tryz.ntmps190 (by simp) (by kernel_rfl) (rs := [.tmp 4]) (tys := [3]) rfl rfl (by simp [finOK, A.ts, OWN, ownE, ownT]) (by simp [resOK, A.ts, OWN, ownE, ownT, DE]) ?_
  simp only [go_sem]
  repeat' (first
    | simp only [IJS]
    | (refine E.GB.use (fun h => ?_) (fun h => ?_) <;> (simp only [go_sem, h]) <;> (try simp only [HFS] at h))
    | apply And.intro
    | omega
    | (have q : l.length ≤ 9223372036854775807 := hl; omega; done)
    | ((unfold szR; omega); done)
    | fail)
theorem szP_l (l : List Plc) (left : Int) (hl : l.length ≤ maxLen) (h0 : 0 ≤ left) (h1 : left ≤ 1048576) : Fn Go.Proofs.Tryz.prog 29 [.c (.s false 3 (l.map ePlc)), .c (.v (vi left))] [.c .d, .c .d] [.c (.v (vi (szR left l.length)))] := by
  refine E.Fn.ev (n := 12) mdL false mix Go.Proofs.Tryz.func29 rfl (by simp [Go.Proofs.Tryz.f29]) Go.Proofs.Tryz.ntmps29 (by simp) (by kernel_rfl) (rs := [.tmp 4]) (tys := [3]) rfl rfl (by simp [finOK, A.ts, OWN, ownE, ownT]) (by simp [resOK, A.ts, OWN, ownE, ownT, DE]) ?_
  simp only [go_sem]
  repeat' (first
    | simp only [IJS]
    | (refine E.GB.use (fun h => ?_) (fun h => ?_) <;> (simp only [go_sem, h]) <;> (try simp only [HFS] at h))
    | apply And.intro
    | omega
    | (have q : l.length ≤ 9223372036854775807 := hl; omega; done)
    | ((unfold szR; omega); done)
    | fail)
theorem szC_l (a : Conf) (left : Int) (hL : LnConf a) (h0 : 0 ≤ left) (h1 : left ≤ 1048576) : Fn Go.Proofs.Tryz.prog 189 [.a (eConf false a), .c (.v (vi left))] [.a [.d, .d, .d, .d], .c .d] [.c (.v (vi (szR left (sizeC a))))] := by
  refine E.Fn.ev (n := 18) mdL false mix Go.Proofs.Tryz.func189 rfl (by simp [Go.Proofs.Tryz.f189]) Go.Proofs.Tryz.ntmps189 (by simp) (by kernel_rfl) (rs := [.tmp 4]) (tys := [3]) rfl rfl (by simp [finOK, A.ts, OWN, ownE, ownT]) (by simp [resOK, A.ts, OWN, ownE, ownT, DE]) ?_
  simp only [go_sem]
  repeat' (first
    | simp only [IJS]
    | (refine E.CALL.use (szI_l _ _ ?_ ?_ ?_) ?_ <;> (try simp only [go_sem]))
    | (refine E.GB.use (fun h => ?_) (fun h => ?_) <;> (simp only [go_sem, h]) <;> (try simp only [HFS] at h))
    | apply And.intro
    | omega
    | (exact hL.1; done)
    | (exact hL.2; done)
    | ((simp only [szR, sizeC] at *; omega); done)
    | fail)
theorem szCs_l (l : List Conf) (left : Int) (hl : l.length ≤ maxLen) (hL : ∀ y ∈ l, LnConf y) (h0 : 0 ≤ left) (h1 : left ≤ 1048576) : Fn Go.Proofs.Tryz.prog 109 [.c (.s false 4 (l.map (eConf false))), .c (.v (vi left))] [.c .d, .c .d] [.c (.v (vi (szR left (l.length + sizeCs l))))] := by
  refine E.Fn.ev (n := 27) mdL false mix Go.Proofs.Tryz.func109 rfl (by simp [Go.Proofs.Tryz.f109]) Go.Proofs.Tryz.ntmps109 (by simp) (by kernel_rfl) (rs := [.tmp 4]) (tys := [3]) rfl rfl (by simp [finOK, A.ts, OWN, ownE, ownT]) (by simp [resOK, A.ts, OWN, ownE, ownT, DE]) ?_
  simp only [go_sem]
  repeat' (first
    | simp only [IJS]
    | (refine E.CALL.use (szC_l _ _ ?_ ?_ ?_) ?_ <;> (try simp only [go_sem]))
    | (refine E.GB.use (fun h => ?_) (fun h => ?_) <;> (simp only [go_sem, h]) <;> (try simp only [HFS] at h))
    | exact E.RK.mk (by kernel_rfl)
    | (refine E.IX_map ?_ (fun hx => ?_); rotate_left; simp only [go_sem])
    | (refine E.loopR (ι := Nat × Int) 5 rfl (fun ⟨i, lf⟩ => [(.s 5, .v (.c (.v (vi i)))), (.s 1, .v (.c (.v (vi lf))))]) [0, 26] [] [] (fun ⟨i, lf⟩ => l.length - i) (fun ⟨i, lf⟩ => i ≤ l.length ∧ 0 ≤ lf ∧ lf ≤ 1048576 ∧ szR lf (sizeCs (l.drop i)) = szR left (l.length + sizeCs l)) mix (by kernel_rfl) (0, left - l.length) ?_ ?_ (fun ⟨i, lf⟩ ⟨hi, hf0, hf1, hR⟩ => ?_); all_goals (try simp (maxSteps := 900000) only [go_sem]); all_goals (try dsimp only at hi hf0 hf1 hR))
    | (refine E.NEXT.use [] (i + 1, szR lf (sizeC (at' l i))) ?_ ?_ ?_; rotate_left 2; focus (simp (maxSteps := 900000) only [go_sem]; (repeat' (first | with_reducible rfl | exact E.RK.mk (by kernel_rfl) | apply And.intro | (push_cast; with_reducible rfl) | (refine E.int_c ?_; omega) | (simp only [go_sem]; done) | (rw [List.map_append]; rfl) | (simp; done) | (simp only [*]; done) | fail)); done))
    | apply And.intro
    | omega
    | (exact (hL _ (E.at_mem (by omega))).1; done)
    | (exact (hL _ (E.at_mem (by omega))).2; done)
    | (have q : l.length ≤ 9223372036854775807 := hl; omega; done)
    | (rw [drop_at (l := l) (i := i) (by omega)] at hR; simp only [sizeCs] at hR; have e1 := sizeC_ge (at' l i); have e2 := sizeCs_ge (l.drop (i + 1)); rw [← hR]; simp only [szR] at *; omega; done)
    | (have e1 := sizeC_ge (at' l i); simp only [szR] at *; omega; done)
    | (simp only [szR] at *; omega; done)
    | (have e2 := sizeCs_ge l; simp only [szR, List.drop_zero] at *; omega; done)
    | (rw [E.drop_end (l := l) (i := i) (by omega)] at hR; simp only [sizeCs] at hR; rw [← hR]; simp only [szR]; omega; done)
    | fail)
theorem szM_l (a : MLog) (left : Int) (hl : a.confs.length ≤ maxLen) (hL : ∀ y ∈ a.confs, LnConf y) (h0 : 0 ≤ left) (h1 : left ≤ 1048576) : Fn Go.Proofs.Tryz.prog 28 [.a (eMLog false a), .c (.v (vi left))] [.a [.d, .d], .c .d] [.c (.v (vi (szR left (sizeM a))))] := by
  refine E.Fn.ev (n := 12) mdL false mix Go.Proofs.Tryz.func28 rfl (by simp [Go.Proofs.Tryz.f28]) Go.Proofs.Tryz.ntmps28 (by simp) (by kernel_rfl) (rs := [.tmp 4]) (tys := [3]) rfl rfl (by simp [finOK, A.ts, OWN, ownE, ownT]) (by simp [resOK, A.ts, OWN, ownE, ownT, DE]) ?_
  simp only [go_sem]
  repeat' (first
    | simp only [IJS]
    | (refine E.CALL.use (szCs_l _ _ ?_ ?_ ?_ ?_) ?_ <;> (try simp only [go_sem]))
    | (refine E.GB.use (fun h => ?_) (fun h => ?_) <;> (simp only [go_sem, h]) <;> (try simp only [HFS] at h))
    | apply And.intro
    | omega
    | ((simp only [szR, sizeM] at *; omega); done)
    | fail)
theorem szS_l (a : Srv) (left : Int) (hL : LnSrv a) (h0 : 0 ≤ left) (h1 : left ≤ 1048576) : Fn Go.Proofs.Tryz.prog 108 [.a (eSrv false a), .c (.v (vi left))] [.a [.d, .d, .d, .d, .d, .d, .d, .d, .d, .d, .d, .d], .c .d] [.c (.v (vi (szR left (sizeS a))))] := by
  refine E.Fn.ev (n := 24) mdL false mix Go.Proofs.Tryz.func108 rfl (by simp [Go.Proofs.Tryz.f108]) Go.Proofs.Tryz.ntmps108 (by simp) (by kernel_rfl) (rs := [.tmp 4]) (tys := [3]) rfl rfl (by simp [finOK, A.ts, OWN, ownE, ownT]) (by simp [resOK, A.ts, OWN, ownE, ownT, DE]) ?_
  simp only [go_sem]
  repeat' (first
    | simp only [IJS]
    | (refine E.CALL.use (szC_l _ _ ?_ ?_ ?_) ?_ <;> (try simp only [go_sem]))
    | (refine E.CALL.use (szE_l _ _ ?_ ?_ ?_) ?_ <;> (try simp only [go_sem]))
    | (refine E.GB.use (fun h => ?_) (fun h => ?_) <;> (simp only [go_sem, h]) <;> (try simp only [HFS] at h))
    | apply And.intro
    | omega
    | (exact hL.1; done)
    | (exact hL.2.1; done)
    | (exact hL.2.2.1; done)
    | (exact hL.2.2.2; done)
    | ((have e1 := sizeC_ge a.conf; simp only [szR, sizeS] at *; omega); done)
    | fail)
theorem szSs_l (l : List Srv) (left : Int) (hl : l.length ≤ maxLen) (hL : ∀ y ∈ l, LnSrv y) (h0 : 0 ≤ left) (h1 : left ≤ 1048576) : Fn Go.Proofs.Tryz.prog 26 [.c (.s false 12 (l.map (eSrv false))), .c (.v (vi left))] [.c .d, .c .d] [.c (.v (vi (szR left (l.length + sizeSs l))))] := by
  refine E.Fn.ev (n := 27) mdL false mix Go.Proofs.Tryz.func26 rfl (by simp [Go.Proofs.Tryz.f26]) Go.Proofs.Tryz.ntmps26 (by simp) (by kernel_rfl) (rs := [.tmp 4]) (tys := [3]) rfl rfl (by simp [finOK, A.ts, OWN, ownE, ownT]) (by simp [resOK, A.ts, OWN, ownE, ownT, DE]) ?_
  simp only [go_sem]
  repeat' (first
    | simp only [IJS]
    | (refine E.CALL.use (szS_l _ _ ?_ ?_ ?_) ?_ <;> (try simp only [go_sem]))
    | (refine E.GB.use (fun h => ?_) (fun h => ?_) <;> (simp only [go_sem, h]) <;> (try simp only [HFS] at h))
    | exact E.RK.mk (by kernel_rfl)
    | (refine E.IX_map ?_ (fun hx => ?_); rotate_left; simp only [go_sem])
    | (refine E.loopR (ι := Nat × Int) 5 rfl (fun ⟨i, lf⟩ => [(.s 5, .v (.c (.v (vi i)))), (.s 1, .v (.c (.v (vi lf))))]) [0, 26] [] [] (fun ⟨i, lf⟩ => l.length - i) (fun ⟨i, lf⟩ => i ≤ l.length ∧ 0 ≤ lf ∧ lf ≤ 1048576 ∧ szR lf (sizeSs (l.drop i)) = szR left (l.length + sizeSs l)) mix (by kernel_rfl) (0, left - l.length) ?_ ?_ (fun ⟨i, lf⟩ ⟨hi, hf0, hf1, hR⟩ => ?_); all_goals (try simp (maxSteps := 900000) only [go_sem]); all_goals (try dsimp only at hi hf0 hf1 hR))
    | (refine E.NEXT.use [] (i + 1, szR lf (sizeS (at' l i))) ?_ ?_ ?_; rotate_left 2; focus (simp (maxSteps := 900000) only [go_sem]; (repeat' (first | with_reducible rfl | exact E.RK.mk (by kernel_rfl) | apply And.intro | (push_cast; with_reducible rfl) | (refine E.int_c ?_; omega) | (simp only [go_sem]; done) | (rw [List.map_append]; rfl) | (simp; done) | (simp only [*]; done) | fail)); done))
    | apply And.intro
    | omega
    | (exact (hL _ (E.at_mem (by omega))).1; done)
    | (exact (hL _ (E.at_mem (by omega))).2.1; done)
    | (exact (hL _ (E.at_mem (by omega))).2.2.1; done)
    | (exact (hL _ (E.at_mem (by omega))).2.2.2; done)
    | (have q : l.length ≤ 9223372036854775807 := hl; omega; done)
    | (rw [drop_at (l := l) (i := i) (by omega)] at hR; simp only [sizeSs] at hR; have e1 := sizeS_ge (at' l i); have e2 := sizeSs_ge (l.drop (i + 1)); rw [← hR]; simp only [szR] at *; omega; done)
    | (have e1 := sizeS_ge (at' l i); simp only [szR] at *; omega; done)
    | (simp only [szR] at *; omega; done)
    | (have e2 := sizeSs_ge l; simp only [szR, List.drop_zero] at *; omega; done)
    | (rw [E.drop_end (l := l) (i := i) (by omega)] at hR; simp only [sizeSs] at hR; rw [← hR]; simp only [szR]; omega; done)
    | fail)
theorem szU_l (a : Clu) (left : Int) (hL : LnClu a) (h0 : 0 ≤ left) (h1 : left ≤ 1048576) : Fn Go.Proofs.Tryz.prog 9 [.a (eClu false a), .c (.v (vi left))] [.a [.d, .d, .d, .d, .d, .d, .d, .d, .d, .d], .c .d] [.c (.v (vi (szR left (sizeU a))))] := by
  refine E.Fn.ev (n := 30) mdL false mix Go.Proofs.Tryz.func9 rfl (by simp [Go.Proofs.Tryz.f9]) Go.Proofs.Tryz.ntmps9 (by simp) (by kernel_rfl) (rs := [.tmp 4]) (tys := [3]) rfl rfl (by simp [finOK, A.ts, OWN, ownE, ownT]) (by simp [resOK, A.ts, OWN, ownE, ownT, DE]) ?_
  simp only [go_sem]
  repeat' (first
    | simp only [IJS]
    | (refine E.CALL.use (szSs_l _ _ ?_ ?_ ?_ ?_) ?_ <;> (try simp only [go_sem]))
    | (refine E.CALL.use (szI_l _ _ ?_ ?_ ?_) ?_ <;> (try simp only [go_sem]))
    | (refine E.CALL.use (szM_l _ _ ?_ ?_ ?_ ?_) ?_ <;> (try simp only [go_sem]))
    | (refine E.CALL.use (szP_l _ _ ?_ ?_ ?_) ?_ <;> (try simp only [go_sem]))
    | (refine E.GB.use (fun h => ?_) (fun h => ?_) <;> (simp only [go_sem, h]) <;> (try simp only [HFS] at h))
    | apply And.intro
    | omega
    | (exact hL.1.1; done)
    | (exact hL.1.2; done)
    | (exact hL.2.1; done)
    | (exact hL.2.2.2; done)
    | (exact hL.2.2.1.1; done)
    | (exact hL.2.2.1.2; done)
    | ((have e1 := sizeSs_ge a.srvs; have e2 := sizeM_ge a.mast; simp only [szR, sizeU] at *; omega); done)
    | fail)
end
section
attribute [local go_sem] mdG_eq mdM toNat_pred setI List.length_set mdL_eq E.b_rem decE_self decN_self
theorem heldI_l (l : List Int) (k : Int) (hl : l.length ≤ 1048576) (hk : 0 ≤ k) (hk2 : k ≤ 1152921504606846976) : Fn Go.Proofs.Tryz.prog 70 [.c (.s false 1 (l.map eInt)), .c (.v (vi k))] [.c .d, .c .d] [.c (.v (vi (heldI l k)))] := by
  refine E.Fn.ev (n := 21) mdL false mix Go.Proofs.Tryz.func70 rfl (by simp [Go.Proofs.Tryz.f70]) Go.Proofs.Tryz.ntmps70 (by simp) (by kernel_rfl) (rs := [.tmp 4]) (tys := [3]) rfl rfl (by simp [finOK, A.ts, OWN, ownE, ownT]) (by simp [resOK, A.ts, OWN, ownE, ownT, DE]) ?_
  simp only [go_sem]
  repeat' (first
    | simp only [IJS]
    | (refine E.GB.use (fun h => ?_) (fun h => ?_) <;> (simp only [go_sem, h]) <;> (try simp only [HFS] at h))
    | exact E.RK.mk (by kernel_rfl)
    | (refine E.IX_map ?_ (fun hx => ?_); rotate_left; simp only [go_sem])
    | (refine E.loopR (ι := Nat) 2 rfl (fun i => [(.s 5, .v (.c (.v (vi i)))), (.s 1, .v (.c (.v (vi (k + (i : Int))))))]) [0, 20] [] [] (fun i => l.length - i) (fun i => i ≤ l.length ∧ heldI (l.drop i) (k + i) = heldI l k) mix (by kernel_rfl) 0 ?_ ?_ (fun i ⟨hi, hR⟩ => ?_); all_goals (try simp (maxSteps := 900000) only [go_sem]); all_goals (try dsimp only at hi hR))
    | (refine E.NEXT.use [] (i + 1) ?_ ?_ ?_; rotate_left 2; focus (simp (maxSteps := 900000) only [go_sem]; (repeat' (first | with_reducible rfl | exact E.RK.mk (by kernel_rfl) | apply And.intro | (push_cast; with_reducible rfl) | (refine E.int_c ?_; omega) | (simp only [go_sem]; done) | (rw [List.map_append]; rfl) | (simp; done) | (simp only [*]; done) | fail)); done))
    | apply And.intro
    | omega
    | (rw [drop_at (l := l) (i := i) (by omega)] at hR; simp only [heldI, h, if_true, if_false] at hR; rw [← hR]; congr 1; omega; done)
    | (rw [drop_at (l := l) (i := i) (by omega)] at hR; simp only [heldI, h, if_true, if_false] at hR; rw [← hR]; done)
    | (rw [E.drop_end (l := l) (i := i) (by omega)] at hR; simp only [heldI] at hR; rw [← hR]; done)
    | (simp; done)
    | fail)
theorem heldE_l (l : List LEnt) (k : Int) (hl : l.length ≤ 1048576) (hk : 0 ≤ k) (hk2 : k ≤ 1152921504606846976) : Fn Go.Proofs.Tryz.prog 159 [.c (.s false 7 (l.map eLEnt)), .c (.v (vi k))] [.c .d, .c .d] [.c (.v (vi (heldE l k)))] := by
  refine E.Fn.ev (n := 82) mdL false mix Go.Proofs.Tryz.func159 rfl (by simp [Go.Proofs.Tryz.f159]) Go.Proofs.Tryz.ntmps159 (by simp) (by kernel_rfl) (rs := [.tmp 4]) (tys := [3]) rfl rfl (by simp [finOK, A.ts, OWN, ownE, ownT]) (by simp [resOK, A.ts, OWN, ownE, ownT, DE]) ?_
  simp only [go_sem]
  repeat' (first
    | simp only [IJS]
    | (refine E.GB.use (fun h => ?_) (fun h => ?_) <;> (simp only [go_sem, h]) <;> (try simp only [HFS] at h))
    | exact E.RK.mk (by kernel_rfl)
    | (refine E.IX_map ?_ (fun hx => ?_); rotate_left; simp only [go_sem])
    | (refine E.loopR (ι := Nat) 2 rfl (fun i => [(.s 5, .v (.c (.v (vi i)))), (.s 1, .v (.c (.v (vi (k + 7 * (i : Int))))))]) [0, 81] [] [] (fun i => l.length - i) (fun i => i ≤ l.length ∧ heldE (l.drop i) (k + 7 * i) = heldE l k) mix (by kernel_rfl) 0 ?_ ?_ (fun i ⟨hi, hR⟩ => ?_); all_goals (try simp (maxSteps := 900000) only [go_sem]); all_goals (try dsimp only at hi hR))
    | (refine E.NEXT.use [] (i + 1) ?_ ?_ ?_; rotate_left 2; focus (simp (maxSteps := 900000) only [go_sem]; (repeat' (first | with_reducible rfl | exact E.RK.mk (by kernel_rfl) | apply And.intro | (push_cast; with_reducible rfl) | (refine E.int_c ?_; omega) | (simp only [go_sem]; done) | (rw [List.map_append]; rfl) | (simp; done) | (simp only [*]; done) | fail)); done))
    | apply And.intro
    | omega
    | (rw [drop_at (l := l) (i := i) (by omega)] at hR; rw [heldE, if_neg (entK_not (by omega))] at hR; exact hR; done)
    | (rw [drop_at (l := l) (i := i) (by omega)] at hR; rw [heldE, if_pos (entK_of (by omega))] at hR; rw [← hR]; congr 1; omega; done)
    | (rw [E.drop_end (l := l) (i := i) (by omega)] at hR; simp only [heldE] at hR; rw [← hR]; done)
    | (simp; done)
    | fail)
theorem heldP_l (l : List Plc) (k : Int) (hl : l.length ≤ 1048576) (hk : 0 ≤ k) (hk2 : k ≤ 1152921504606846976) : Fn Go.Proofs.Tryz.prog 72 [.c (.s false 3 (l.map ePlc)), .c (.v (vi k))] [.c .d, .c .d] [.c (.v (vi (heldP l k)))] := by
  refine E.Fn.ev (n := 40) mdL false mix Go.Proofs.Tryz.func72 rfl (by simp [Go.Proofs.Tryz.f72]) Go.Proofs.Tryz.ntmps72 (by simp) (by kernel_rfl) (rs := [.tmp 4]) (tys := [3]) rfl rfl (by simp [finOK, A.ts, OWN, ownE, ownT]) (by simp [resOK, A.ts, OWN, ownE, ownT, DE]) ?_
  simp only [go_sem]
  repeat' (first
    | simp only [IJS]
    | (refine E.GB.use (fun h => ?_) (fun h => ?_) <;> (simp only [go_sem, h]) <;> (try simp only [HFS] at h))
    | exact E.RK.mk (by kernel_rfl)
    | (refine E.IX_map ?_ (fun hx => ?_); rotate_left; simp only [go_sem])
    | (refine E.loopR (ι := Nat) 2 rfl (fun i => [(.s 5, .v (.c (.v (vi i)))), (.s 1, .v (.c (.v (vi (k + 3 * (i : Int))))))]) [0, 39] [] [] (fun i => l.length - i) (fun i => i ≤ l.length ∧ heldP (l.drop i) (k + 3 * i) = heldP l k) mix (by kernel_rfl) 0 ?_ ?_ (fun i ⟨hi, hR⟩ => ?_); all_goals (try simp (maxSteps := 900000) only [go_sem]); all_goals (try dsimp only at hi hR))
    | (refine E.NEXT.use [] (i + 1) ?_ ?_ ?_; rotate_left 2; focus (simp (maxSteps := 900000) only [go_sem]; (repeat' (first | with_reducible rfl | exact E.RK.mk (by kernel_rfl) | apply And.intro | (push_cast; with_reducible rfl) | (refine E.int_c ?_; omega) | (simp only [go_sem]; done) | (rw [List.map_append]; rfl) | (simp; done) | (simp only [*]; done) | fail)); done))
    | apply And.intro
    | omega
    | (rw [drop_at (l := l) (i := i) (by omega)] at hR; rw [heldP, if_neg (plcK_not (by omega))] at hR; exact hR; done)
    | (rw [drop_at (l := l) (i := i) (by omega)] at hR; rw [heldP, if_pos (plcK_of (by omega))] at hR; rw [← hR]; congr 1; omega; done)
    | (rw [E.drop_end (l := l) (i := i) (by omega)] at hR; simp only [heldP] at hR; rw [← hR]; done)
    | (simp; done)
    | fail)
end
section
attribute [local go_sem] mdG_eq mdM toNat_pred setI List.length_set mdL_eq E.b_rem decE_self decN_self
theorem heldCs_l (l : List Conf) (k : Int) (hl : l.length ≤ 1048576) (hb : ∀ x ∈ l, ConfB x) (hk : 0 ≤ k) (hk2 : k ≤ 288230376151711744) : Fn Go.Proofs.Tryz.prog 160 [.c (.s false 4 (l.map (eConf false))), .c (.v (vi k))] [.c .d, .c .d] [.c (.v (vi (heldCs l k)))] := by
  refine E.Fn.ev (n := 49) mdL false mix Go.Proofs.Tryz.func160 rfl (by simp [Go.Proofs.Tryz.f160]) Go.Proofs.Tryz.ntmps160 (by simp) (by kernel_rfl) (rs := [.tmp 4]) (tys := [3]) rfl rfl (by simp [finOK, A.ts, OWN, ownE, ownT]) (by simp [resOK, A.ts, OWN, ownE, ownT, DE]) ?_
  simp only [go_sem]
  repeat' (first
    | simp only [IJS]
    | (refine E.CALL.use (heldI_l _ _ ?_ ?_ ?_) ?_ <;> (try simp only [go_sem]))
    | (refine E.GB.use (fun h => ?_) (fun h => ?_) <;> (simp only [go_sem, h]) <;> (try simp only [HFS] at h))
    | exact E.RK.mk (by kernel_rfl)
    | (refine E.IX_map ?_ (fun hx => ?_); rotate_left; simp only [go_sem])
    | (refine E.loopR (ι := Nat × Int) 2 rfl (fun ⟨i, kk⟩ => [(.s 5, .v (.c (.v (vi i)))), (.s 1, .v (.c (.v (vi kk))))]) [0, 48] [] [] (fun ⟨i, kk⟩ => l.length - i) (fun ⟨i, kk⟩ => i ≤ l.length ∧ 0 ≤ kk ∧ kk ≤ k + 2097154 * i ∧ heldCs (l.drop i) kk = heldCs l k) mix (by kernel_rfl) (0, k) ?_ ?_ (fun ⟨i, kk⟩ ⟨hi, hk0, hk1, hR⟩ => ?_); all_goals (try simp (maxSteps := 900000) only [go_sem]); all_goals (try dsimp only at hi hk0 hk1 hR))
    | (refine E.NEXT.use [] (i + 1, heldI (at' l i).wits (heldI (at' l i).reps (kk + 1 + 1))) ?_ ?_ ?_; rotate_left 2; focus (simp (maxSteps := 900000) only [go_sem]; (repeat' (first | with_reducible rfl | exact E.RK.mk (by kernel_rfl) | apply And.intro | (push_cast; with_reducible rfl) | (refine E.int_c ?_; omega) | (simp only [go_sem]; done) | (rw [List.map_append]; rfl) | (simp; done) | (simp only [*]; done) | fail)); done))
    | apply And.intro
    | omega
    | (exact (hb _ (E.at_mem (by omega))).r; done)
    | (exact (hb _ (E.at_mem (by omega))).w; done)
    | (have g1 := hb (at' l i) (E.at_mem (by omega)); have g2 := heldI_b (at' l i).reps (kk + 1 + 1) (by omega); have g3 := g1.r; have g4 := g1.w; omega; done)
    | (have g1 := hb (at' l i) (E.at_mem (by omega)); have g2 := heldI_b (at' l i).reps (kk + 1 + 1) (by omega); have g3 := g1.r; have g4 := g1.w; have g5 := heldI_b (at' l i).wits (heldI (at' l i).reps (kk + 1 + 1)) (by omega); omega; done)
    | (exact heldCs_f (by omega) hR (by omega); done)
    | (exact heldCs_y (by omega) hR (by omega); done)
    | (rw [E.drop_end (l := l) (i := i) (by omega)] at hR; simp only [heldCs] at hR; rw [← hR]; done)
    | fail)
theorem heldM_l (a : MLog) (k : Int) (hM : MLB a) (hk : 0 ≤ k) (hk2 : k ≤ 288230376151711744) : Fn Go.Proofs.Tryz.prog 71 [.a (eMLog false a), .c (.v (vi k))] [.a [.d, .d], .c .d] [.c (.v (vi (heldCs a.confs k)))] := by
  refine E.Fn.ev (n := 12) mdL false mix Go.Proofs.Tryz.func71 rfl (by simp [Go.Proofs.Tryz.f71]) Go.Proofs.Tryz.ntmps71 (by simp) (by kernel_rfl) (rs := [.tmp 4]) (tys := [3]) rfl rfl (by simp [finOK, A.ts, OWN, ownE, ownT]) (by simp [resOK, A.ts, OWN, ownE, ownT, DE]) ?_
  simp only [go_sem]
  repeat' (first
    | simp only [IJS]
    | (refine E.CALL.use (heldCs_l _ _ ?_ ?_ ?_ ?_) ?_ <;> (try simp only [go_sem]))
    | (refine E.GB.use (fun h => ?_) (fun h => ?_) <;> (simp only [go_sem, h]) <;> (try simp only [HFS] at h))
    | apply And.intro
    | omega
    | (exact hM.len; done)
    | (exact hM.confs; done)
    | (exact heldCs_n _ _ hk h; done)
    | fail)
end
section
attribute [local go_sem] mdG_eq mdM toNat_pred setI List.length_set mdL_eq E.b_rem decE_self decN_self
theorem heldSs_l (l : List Srv) (k : Int) (hl : l.length ≤ 1048576) (hb : ∀ x ∈ l, SrvB x) (hk : 0 ≤ k) (hk2 : k ≤ 144115188075855872) : Fn Go.Proofs.Tryz.prog 69 [.c (.s false 12 (l.map (eSrv false))), .c (.v (vi k))] [.c .d, .c .d] [.c (.v (vi (heldSs l k)))] := by
  refine E.Fn.ev (n := 129) mdL false mix Go.Proofs.Tryz.func69 rfl (by simp [Go.Proofs.Tryz.f69]) Go.Proofs.Tryz.ntmps69 (by simp) (by kernel_rfl) (rs := [.tmp 4]) (tys := [3]) rfl rfl (by simp [finOK, A.ts, OWN, ownE, ownT]) (by simp [resOK, A.ts, OWN, ownE, ownT, DE]) ?_
  simp only [go_sem]
  repeat' (first
    | simp only [IJS]
    | (refine E.CALL.use (heldI_l _ _ ?_ ?_ ?_) ?_ <;> (try simp only [go_sem]))
    | (refine E.CALL.use (heldE_l _ _ ?_ ?_ ?_) ?_ <;> (try simp only [go_sem]))
    | (refine E.GB.use (fun h => ?_) (fun h => ?_) <;> (simp only [go_sem, h]) <;> (try simp only [HFS] at h))
    | exact E.RK.mk (by kernel_rfl)
    | (refine E.IX_map ?_ (fun hx => ?_); rotate_left; simp only [go_sem])
    | (refine E.loopR (ι := Nat × Int) 2 rfl (fun ⟨i, kk⟩ => [(.s 5, .v (.c (.v (vi i)))), (.s 1, .v (.c (.v (vi kk))))]) [0, 128] [] [] (fun ⟨i, kk⟩ => l.length - i) (fun ⟨i, kk⟩ => i ≤ l.length ∧ 0 ≤ kk ∧ kk ≤ k + 16777224 * i ∧ heldSs (l.drop i) kk = heldSs l k) mix (by kernel_rfl) (0, k) ?_ ?_ (fun ⟨i, kk⟩ ⟨hi, hk0, hk1, hR⟩ => ?_); all_goals (try simp (maxSteps := 900000) only [go_sem]); all_goals (try dsimp only at hi hk0 hk1 hR))
    | (refine E.NEXT.use [] (i + 1, hG1 (at' l i) kk) ?_ ?_ ?_; rotate_left 2; focus (simp (maxSteps := 900000) only [go_sem]; (repeat' (first | with_reducible rfl | exact E.RK.mk (by kernel_rfl) | apply And.intro | (push_cast; with_reducible rfl) | (refine E.int_c ?_; omega) | (simp only [go_sem]; done) | (rw [List.map_append]; rfl) | (simp; done) | (simp only [*]; done) | ((refine E.int_c ?_; rfl); done) | fail)); done))
    | apply And.intro
    | omega
    | (exact (hb _ (E.at_mem (by omega))).conf.r; done)
    | (exact (hb _ (E.at_mem (by omega))).conf.w; done)
    | (exact (hb _ (E.at_mem (by omega))).log; done)
    | (exact (hb _ (E.at_mem (by omega))).learned; done)
    | (have g1 := hb (at' l i) (E.at_mem (by omega)); have g2 := g1.conf.r; have g3 := g1.conf.w; have g4 := g1.log; have g5 := g1.learned; have a1 := heldI_b (at' l i).conf.reps (kk + 1 + 1 + 1 + 1 + 1 + 1) (by omega); omega; done)
    | (have g1 := hb (at' l i) (E.at_mem (by omega)); have g2 := g1.conf.r; have g3 := g1.conf.w; have g4 := g1.log; have g5 := g1.learned; have a1 := heldI_b (at' l i).conf.reps (kk + 1 + 1 + 1 + 1 + 1 + 1) (by omega); have a2 := heldI_b (at' l i).conf.wits (heldI (at' l i).conf.reps (kk + 1 + 1 + 1 + 1 + 1 + 1)) (by omega); omega; done)
    | (have g1 := hb (at' l i) (E.at_mem (by omega)); have g2 := g1.conf.r; have g3 := g1.conf.w; have g4 := g1.log; have g5 := g1.learned; have a1 := heldI_b (at' l i).conf.reps (kk + 1 + 1 + 1 + 1 + 1 + 1) (by omega); have a2 := heldI_b (at' l i).conf.wits (heldI (at' l i).conf.reps (kk + 1 + 1 + 1 + 1 + 1 + 1)) (by omega); have a3 := heldE_b (at' l i).log (heldI (at' l i).conf.wits (heldI (at' l i).conf.reps (kk + 1 + 1 + 1 + 1 + 1 + 1)) + 1) (by omega); omega; done)
    | (have g1 := hb (at' l i) (E.at_mem (by omega)); have g2 := g1.conf.r; have g3 := g1.conf.w; have g4 := g1.log; have g5 := g1.learned; have a1 := heldI_b (at' l i).conf.reps (kk + 1 + 1 + 1 + 1 + 1 + 1) (by omega); have a2 := heldI_b (at' l i).conf.wits (heldI (at' l i).conf.reps (kk + 1 + 1 + 1 + 1 + 1 + 1)) (by omega); have a3 := heldE_b (at' l i).log (heldI (at' l i).conf.wits (heldI (at' l i).conf.reps (kk + 1 + 1 + 1 + 1 + 1 + 1)) + 1) (by omega); have a4 := heldE_b (at' l i).learned (heldE (at' l i).log (heldI (at' l i).conf.wits (heldI (at' l i).conf.reps (kk + 1 + 1 + 1 + 1 + 1 + 1)) + 1) + 1) (by omega); change heldE (at' l i).learned (heldE (at' l i).log (heldI (at' l i).conf.wits (heldI (at' l i).conf.reps (kk + 1 + 1 + 1 + 1 + 1 + 1)) + 1) + 1) ≤ _; omega; done)
    | (change 0 ≤ heldE (at' l i).learned (heldE (at' l i).log (heldI (at' l i).conf.wits (heldI (at' l i).conf.reps (kk + 1 + 1 + 1 + 1 + 1 + 1)) + 1) + 1); omega; done)
    | (exact heldSs_f1 (by omega) hR (by assumption); done)
    | (exact heldSs_f2 (by omega) hR (by assumption); done)
    | (exact heldSs_f3 (by omega) hR (by omega); done)
    | (exact heldSs_ok (by omega) hR (by assumption) (by assumption) (by omega); done)
    | (rw [E.drop_end (l := l) (i := i) (by omega)] at hR; simp only [heldSs] at hR; rw [← hR]; done)
    | fail)
theorem heldU_l (a : Clu) (k : Int) (hB : CluB a) (hk : 0 ≤ k) (hk2 : k ≤ 72057594037927936) : Fn Go.Proofs.Tryz.prog 15 [.a (eClu false a), .c (.v (vi k))] [.a [.d, .d, .d, .d, .d, .d, .d, .d, .d, .d], .c .d] [.c (.v (vi (heldU a k)))] := by
  refine E.Fn.ev (n := 30) mdL false mix Go.Proofs.Tryz.func15 rfl (by simp [Go.Proofs.Tryz.f15]) Go.Proofs.Tryz.ntmps15 (by simp) (by kernel_rfl) (rs := [.tmp 4]) (tys := [3]) rfl rfl (by simp [finOK, A.ts, OWN, ownE, ownT]) (by simp [resOK, A.ts, OWN, ownE, ownT, DE]) ?_
  simp only [go_sem]
  repeat' (first
    | simp only [IJS]
    | (refine E.CALL.use (heldSs_l _ _ ?_ ?_ ?_ ?_) ?_ <;> (try simp only [go_sem]))
    | (refine E.CALL.use (heldI_l _ _ ?_ ?_ ?_) ?_ <;> (try simp only [go_sem]))
    | (refine E.CALL.use (heldM_l _ _ ?_ ?_ ?_) ?_ <;> (try simp only [go_sem]))
    | (refine E.CALL.use (heldP_l _ _ ?_ ?_ ?_) ?_ <;> (try simp only [go_sem]))
    | (refine E.GB.use (fun h => ?_) (fun h => ?_) <;> (simp only [go_sem, h]) <;> (try simp only [HFS] at h))
    | apply And.intro
    | omega
    | (exact hB.srvs; done)
    | (exact hB.sl; done)
    | (exact hB.sd; done)
    | (exact hB.m; done)
    | (exact hB.pl; done)
    | (have g1 := hB.sl; have g2 := hB.sd; have g3 := hB.m.len; have g4 := hB.pl; have a1 := heldSs_b a.srvs k hB.srvs hk; omega; done)
    | (have g1 := hB.sl; have g2 := hB.sd; have g3 := hB.m.len; have g4 := hB.pl; have a1 := heldSs_b a.srvs k hB.srvs hk; have a2 := heldI_b a.sides (heldSs a.srvs k) (by omega); omega; done)
    | (have g1 := hB.sl; have g2 := hB.sd; have g3 := hB.m.len; have g4 := hB.pl; have a1 := heldSs_b a.srvs k hB.srvs hk; have a2 := heldI_b a.sides (heldSs a.srvs k) (by omega); have a3 := heldCs_b a.mast.confs (heldI a.sides (heldSs a.srvs k)) hB.m.confs (by omega); omega; done)
    | (unfold heldU; dsimp only; rw [if_pos (by omega)]; done)
    | (unfold heldU; dsimp only; rw [if_neg (by omega), if_pos (by omega)]; done)
    | (unfold heldU; dsimp only; rw [if_neg (by omega), if_neg (by omega), if_pos (by omega)]; done)
    | (unfold heldU; dsimp only; rw [if_neg (by omega), if_neg (by omega), if_neg (by omega), if_pos (by omega)]; done)
    | (unfold heldU; dsimp only; rw [if_neg (by omega), if_neg (by omega), if_neg (by omega), if_neg (by omega)]; done)
    | fail)
end
section
attribute [local go_sem] mdG_eq mdM toNat_pred setI List.length_set mdL_eq E.b_rem decE_self decN_self mkL_len mkL_at List.set_set
theorem markI_l (l : List Int) (k : Int) (hl : l.length ≤ 1048576) (hk : 0 ≤ k) (hk2 : k ≤ 1152921504606846976) : Fn Go.Proofs.Tryz.prog 66 [.c (.s true 1 (l.map eInt)), .c (.v (vi k))] [.c (.s true 1 ((markI l k).map eInt)), .c .d] [.c (.v (vi (k + l.length)))] := by
  refine E.Fn.ev (n := 19) mdL false mix Go.Proofs.Tryz.func66 rfl (by simp [Go.Proofs.Tryz.f66]) Go.Proofs.Tryz.ntmps66 (by simp) (by kernel_rfl) (rs := [.tmp 4]) (tys := [3]) rfl rfl (by simp [finOK, A.ts, OWN, ownE, ownT]) (by simp [resOK, A.ts, OWN, ownE, ownT, DE]) ?_
  simp only [go_sem]
  repeat' (first
    | simp only [IJS]
    | (refine E.GB.use (fun h => ?_) (fun h => ?_) <;> (simp only [go_sem, h]) <;> (try simp only [HFS] at h))
    | exact E.RK.mk (by kernel_rfl)
    | (refine E.IX_map ?_ (fun hx => ?_); rotate_left; simp only [go_sem])
    | (refine E.loopR (ι := Nat) 2 rfl (fun i => [(.s 5, .v (.c (.v (vi i)))), (.s 1, .v (.c (.v (vi (mkK (fun _ k => k + 1) l k i))))), (.k (0, 0), .e ⟨0, 1, (mkL (fun _ k => k) (fun _ k => k + 1) l k i).map eInt⟩)]) [0, 4, 18] [(0, 0)] [] (fun i => l.length - i) (fun i => i ≤ l.length ∧ 0 ≤ mkK (fun _ k => k + 1) l k i) mix (by kernel_rfl) 0 ?_ ?_ (fun i ⟨hi, hk0⟩ => ?_); all_goals (try simp (maxSteps := 900000) only [go_sem]); all_goals (try dsimp only at hi hk0))
    | (refine E.NEXT.use [] (i + 1) ?_ ?_ ?_; rotate_left 2; focus (simp (maxSteps := 900000) only [go_sem]; (repeat' (first | with_reducible rfl | exact E.RK.mk (by kernel_rfl) | apply And.intro | (push_cast; with_reducible rfl) | (refine E.int_c ?_; omega) | (simp only [go_sem]; done) | (rw [List.map_append]; rfl) | (simp; done) | (simp only [*]; done) | (rfl; done) | (rw [mkL, List.map_set] <;> rfl; done) | fail)); done))
    | apply And.intro
    | omega
    | refine congrArg (List.map _) ?_
    | (rw [mkL_len]; omega; done)
    | (have e : i = l.length := (by omega); subst e; rw [mkL_I]; done)
    | (have e : i = l.length := (by omega); subst e; rw [mkK_I]; done)
    | (rw [mkK_I]; omega; done)
    | (rfl; done)
    | fail)
theorem markE_l (l : List LEnt) (k : Int) (hl : l.length ≤ 1048576) (hk : 0 ≤ k) (hk2 : k ≤ 1152921504606846976) : Fn Go.Proofs.Tryz.prog 157 [.c (.s true 7 (l.map eLEnt)), .c (.v (vi k))] [.c (.s true 7 ((markE l k).map eLEnt)), .c .d] [.c (.v (vi (k + 7 * l.length)))] := by
  refine E.Fn.ev (n := 68) mdL false mix Go.Proofs.Tryz.func157 rfl (by simp [Go.Proofs.Tryz.f157]) Go.Proofs.Tryz.ntmps157 (by simp) (by kernel_rfl) (rs := [.tmp 4]) (tys := [3]) rfl rfl (by simp [finOK, A.ts, OWN, ownE, ownT]) (by simp [resOK, A.ts, OWN, ownE, ownT, DE]) ?_
  simp only [go_sem]
  repeat' (first
    | simp only [IJS]
    | (refine E.GB.use (fun h => ?_) (fun h => ?_) <;> (simp only [go_sem, h]) <;> (try simp only [HFS] at h))
    | exact E.RK.mk (by kernel_rfl)
    | (refine E.IX_map ?_ (fun hx => ?_); rotate_left; simp only [go_sem])
    | (refine E.IX_set ?_ ?_; rotate_left; simp only [go_sem])
    | (refine E.loopR (ι := Nat) 2 rfl (fun i => [(.s 5, .v (.c (.v (vi i)))), (.s 1, .v (.c (.v (vi (mkK (fun _ k => k + 7) l k i))))), (.k (0, 0), .e ⟨0, 7, (mkL (fun _ k => entK k) (fun _ k => k + 7) l k i).map eLEnt⟩)]) [0, 4, 67] [(0, 0)] [] (fun i => l.length - i) (fun i => i ≤ l.length ∧ 0 ≤ mkK (fun _ k => k + 7) l k i) mix (by kernel_rfl) 0 ?_ ?_ (fun i ⟨hi, hk0⟩ => ?_); all_goals (try simp (maxSteps := 900000) only [go_sem]); all_goals (try dsimp only at hi hk0))
    | (refine E.NEXT.use [] (i + 1) ?_ ?_ ?_; rotate_left 2; focus (simp (maxSteps := 900000) only [go_sem]; (repeat' (first | with_reducible rfl | exact E.RK.mk (by kernel_rfl) | apply And.intro | (push_cast; with_reducible rfl) | (refine E.int_c ?_; omega) | (simp only [go_sem]; done) | (rw [List.map_append]; rfl) | (simp; done) | (simp only [*]; done) | (rfl; done) | (rw [mkL, List.map_set] <;> rfl; done) | (rw [mkK]; refine E.int_c ?_; omega; done) | fail)); done))
    | apply And.intro
    | omega
    | refine congrArg (List.map _) ?_
    | (rw [mkL_len]; omega; done)
    | (have e : i = l.length := (by omega); subst e; rw [mkL_E]; done)
    | (have e : i = l.length := (by omega); subst e; rw [mkK_E]; done)
    | (rw [mkK_E]; omega; done)
    | (rfl; done)
    | fail)
theorem markP_l (l : List Plc) (k : Int) (hl : l.length ≤ 1048576) (hk : 0 ≤ k) (hk2 : k ≤ 1152921504606846976) : Fn Go.Proofs.Tryz.prog 68 [.c (.s true 3 (l.map ePlc)), .c (.v (vi k))] [.c (.s true 3 ((markP l k).map ePlc)), .c .d] [.c (.v (vi (k + 3 * l.length)))] := by
  refine E.Fn.ev (n := 34) mdL false mix Go.Proofs.Tryz.func68 rfl (by simp [Go.Proofs.Tryz.f68]) Go.Proofs.Tryz.ntmps68 (by simp) (by kernel_rfl) (rs := [.tmp 4]) (tys := [3]) rfl rfl (by simp [finOK, A.ts, OWN, ownE, ownT]) (by simp [resOK, A.ts, OWN, ownE, ownT, DE]) ?_
  simp only [go_sem]
  repeat' (first
    | simp only [IJS]
    | (refine E.GB.use (fun h => ?_) (fun h => ?_) <;> (simp only [go_sem, h]) <;> (try simp only [HFS] at h))
    | exact E.RK.mk (by kernel_rfl)
    | (refine E.IX_map ?_ (fun hx => ?_); rotate_left; simp only [go_sem])
    | (refine E.IX_set ?_ ?_; rotate_left; simp only [go_sem])
    | (refine E.loopR (ι := Nat) 2 rfl (fun i => [(.s 5, .v (.c (.v (vi i)))), (.s 1, .v (.c (.v (vi (mkK (fun _ k => k + 3) l k i))))), (.k (0, 0), .e ⟨0, 3, (mkL (fun _ k => plcK k) (fun _ k => k + 3) l k i).map ePlc⟩)]) [0, 4, 33] [(0, 0)] [] (fun i => l.length - i) (fun i => i ≤ l.length ∧ 0 ≤ mkK (fun _ k => k + 3) l k i) mix (by kernel_rfl) 0 ?_ ?_ (fun i ⟨hi, hk0⟩ => ?_); all_goals (try simp (maxSteps := 900000) only [go_sem]); all_goals (try dsimp only at hi hk0))
    | (refine E.NEXT.use [] (i + 1) ?_ ?_ ?_; rotate_left 2; focus (simp (maxSteps := 900000) only [go_sem]; (repeat' (first | with_reducible rfl | exact E.RK.mk (by kernel_rfl) | apply And.intro | (push_cast; with_reducible rfl) | (refine E.int_c ?_; omega) | (simp only [go_sem]; done) | (rw [List.map_append]; rfl) | (simp; done) | (simp only [*]; done) | (rfl; done) | (rw [mkL, List.map_set] <;> rfl; done) | (rw [mkK]; refine E.int_c ?_; omega; done) | fail)); done))
    | apply And.intro
    | omega
    | refine congrArg (List.map _) ?_
    | (rw [mkL_len]; omega; done)
    | (have e : i = l.length := (by omega); subst e; rw [mkL_P]; done)
    | (have e : i = l.length := (by omega); subst e; rw [mkK_P]; done)
    | (rw [mkK_P]; omega; done)
    | (rfl; done)
    | fail)
end
section
attribute [local go_sem] mdG_eq mdM toNat_pred setI List.length_set mdL_eq E.b_rem decE_self decN_self mkL_len mkL_at List.set_set E.rawCs_nil E.rawCs_s E.rawCs_v E.take_s markI_len markE_len
theorem markCs_l (l : List Conf) (k : Int) (hl : l.length ≤ 1048576) (hb : ∀ x ∈ l, ConfB x) (hk : 0 ≤ k) (hk2 : k ≤ 288230376151711744) : Fn Go.Proofs.Tryz.prog 158 [.c (.s true 4 (l.map (eConf true))), .c (.v (vi k))] [.c (.s true 4 ((markCs l k).map (eConf true))), .c .d] [.c (.v (vi (endCs l k)))] := by
  refine E.Fn.ev (n := 41) mdL false mix Go.Proofs.Tryz.func158 rfl (by simp [Go.Proofs.Tryz.f158]) Go.Proofs.Tryz.ntmps158 (by simp) (by kernel_rfl) (rs := [.tmp 4]) (tys := [3]) rfl rfl (by simp [finOK, A.ts, OWN, ownE, ownT]) (by simp [resOK, A.ts, OWN, ownE, ownT, DE]) ?_
  simp only [go_sem]
  repeat' (first
    | simp only [IJS]
    | (refine E.CALL.use (markI_l _ _ ?_ ?_ ?_) ?_ <;> (try simp only [go_sem]))
    | (refine E.GB.use (fun h => ?_) (fun h => ?_) <;> (simp only [go_sem, h]) <;> (try simp only [HFS] at h))
    | exact E.RK.mk (by kernel_rfl)
    | (refine E.IX_map ?_ (fun hx => ?_); rotate_left; simp only [go_sem])
    | (refine E.IX_set ?_ ?_; rotate_left; simp only [go_sem])
    | (refine E.loopR (ι := Nat × Nat) 2 rfl (fun ⟨i, v⟩ => [(.s 5, .v (.c (.v (vi i)))), (.s 1, .v (.c (.v (vi (mkK (fun c k => endC c (k + 1 + 1)) l k i))))), (.k (0, 0), .e ⟨v, 4, (mkL (confK) (fun c k => endC c (k + 1 + 1)) l k i).map (eConf true)⟩)]) [0, 4, 40] [(0, 0)] [] (fun ⟨i, v⟩ => l.length - i) (fun ⟨i, v⟩ => i ≤ l.length ∧ 0 ≤ mkK (fun c k => endC c (k + 1 + 1)) l k i) mix (by kernel_rfl) (0, 0) ?_ ?_ (fun ⟨i, v⟩ ⟨hi, hk0⟩ => ?_); all_goals (try simp (maxSteps := 900000) only [go_sem]); all_goals (try dsimp only at hi hk0))
    | (refine E.NEXT.use [] (i + 1, v + 2) ?_ ?_ ?_; rotate_left 2; focus (simp (maxSteps := 900000) only [go_sem]; (repeat' (first | with_reducible rfl | exact E.RK.mk (by kernel_rfl) | apply And.intro | (push_cast; with_reducible rfl) | (refine E.int_c ?_; omega) | (simp only [go_sem]; done) | (rw [List.map_append]; rfl) | (simp; done) | (simp only [*]; done) | (rfl; done) | (rw [mkL, List.map_set] <;> rfl; done) | fail)); done))
    | (have hw : i < (List.map (eConf true) (mkL (confK) (fun c k => endC c (k + 1 + 1)) l k i)).length := (by simp only [List.length_map, mkL_len]; omega); simp only [List.getElem?_set_self hw, go_sem])
    | apply And.intro
    | omega
    | refine congrArg (List.map _) ?_
    | (have e : i = l.length := (by omega); subst e; rw [mkL_C]; done)
    | (have e : i = l.length := (by omega); subst e; rw [mkK_C]; done)
    | (exact (hb _ (E.at_mem (by omega))).r; done)
    | (exact (hb _ (E.at_mem (by omega))).w; done)
    | (have g1 := mkK_Cle hb k i (by omega); omega; done)
    | (have g1 := mkK_Cle hb k i (by omega); have g2 := (hb (at' l i) (E.at_mem (by omega))).r; omega; done)
    | (rfl; done)
    | (exact hk; done)
    | (have g1 := mkK_Cge l k (i + 1); omega; done)
    | fail)
end
section
attribute [local go_sem] mdG_eq mdM toNat_pred setI List.length_set mdL_eq E.b_rem decE_self decN_self mkL_len mkL_at List.set_set E.rawCs_nil E.rawCs_s E.rawCs_v E.take_s markI_len markE_len
theorem markM_l (a : MLog) (k : Int) (hM : MLB a) (hk : 0 ≤ k) (hk2 : k ≤ 288230376151711744) : Fn Go.Proofs.Tryz.prog 67 [.a (eMLog true a), .c (.v (vi k))] [.a [.s true 4 ((markCs a.confs k).map (eConf true)), .d], .c .d] [.c (.v (vi (endCs a.confs k)))] := by
  refine E.Fn.evH (n := 10) Go.Proofs.Tryz.func67 rfl (by simp [Go.Proofs.Tryz.f67]) Go.Proofs.Tryz.ntmps67 (by simp) (rs := [.tmp 4]) (tys := [3]) rfl rfl (by simp [finOK, A.ts, OWN, ownE, ownT, DE]) (by simp [resOK, A.ts, OWN, ownE, ownT, DE]) (fun H rv hR => ?_)
  have hR0 : ∀ j sz es, (eMLog true a)[j]? = some (.s true sz es) → (rv j).oneCell' = true := fun j sz es h => (hR j sz es h).one
  have r0 := hR 0 _ _ rfl
  have q0 := r0.one
  clear hR hR0
  simp only [go_sem]
  repeat' (first
    | (refine E.CALL.use (markCs_l _ _ ?_ ?_ ?_ ?_) ?_ <;> (try simp only [go_sem]))
    | simp only [IJS]
    | (refine E.evh_seq ?_; refine E.evh_reg (id := 0) mdL false (by rfl) ?_; simp only [go_sem])
    | (refine E.evh_seq ?_; refine E.evh_conv (id := 1) mdL false 3 6 [some (0, 0)] (by rfl) ?_; dsimp only [List.take, List.drop]; simp only [go_sem])
    | (apply E.CVT.use1 (t := 6); exact rfl; exact rfl; exact r0; simp only [go_sem])
    | (refine E.evh_seq ?_; refine E.evh_reg (id := 2) mdL false (by rfl) ?_; simp only [go_sem])
    | (refine E.evh_ret ?_; simp only [go_sem])
    | apply And.intro
    | omega
    | (exact hM.len; done)
    | (exact hM.confs; done)
    | (assumption; done)
    | (exact markCs_len _ _; done)
    | fail)
end
section
attribute [local go_sem] mdG_eq mdM toNat_pred setI List.length_set mdL_eq E.b_rem decE_self decN_self mkL_len mkL_at List.set_set E.rawCs_nil E.rawCs_s E.rawCs_v E.take_s markI_len markE_len
theorem markSs_l (l : List Srv) (k : Int) (hl : l.length ≤ 1048576) (hb : ∀ x ∈ l, SrvB x) (hk : 0 ≤ k) (hk2 : k ≤ 144115188075855872) : Fn Go.Proofs.Tryz.prog 65 [.c (.s true 12 (l.map (eSrv true))), .c (.v (vi k))] [.c (.s true 12 ((markSs l k).map (eSrv true))), .c .d] [.c (.v (vi (endSs l k)))] := by
  refine E.Fn.ev (n := 105) mdL false mix Go.Proofs.Tryz.func65 rfl (by simp [Go.Proofs.Tryz.f65]) Go.Proofs.Tryz.ntmps65 (by simp) (by kernel_rfl) (rs := [.tmp 4]) (tys := [3]) rfl rfl (by simp [finOK, A.ts, OWN, ownE, ownT]) (by simp [resOK, A.ts, OWN, ownE, ownT, DE]) ?_
  simp only [go_sem]
  repeat' (first
    | simp only [IJS]
    | (refine E.CALL.use (markI_l _ _ ?_ ?_ ?_) ?_ <;> (try simp only [go_sem]))
    | (refine E.CALL.use (markE_l _ _ ?_ ?_ ?_) ?_ <;> (try simp only [go_sem]))
    | (refine E.GB.use (fun h => ?_) (fun h => ?_) <;> (simp only [go_sem, h]) <;> (try simp only [HFS] at h))
    | exact E.RK.mk (by kernel_rfl)
    | (refine E.IX_map ?_ (fun hx => ?_); rotate_left; simp only [go_sem])
    | (refine E.IX_set ?_ ?_; rotate_left; simp only [go_sem])
    | (refine E.loopR (ι := Nat × Nat) 2 rfl (fun ⟨i, v⟩ => [(.s 5, .v (.c (.v (vi i)))), (.s 1, .v (.c (.v (vi (mkK (endS) l k i))))), (.k (0, 0), .e ⟨v, 12, (mkL (srvK) (endS) l k i).map (eSrv true)⟩)]) [0, 4, 104] [(0, 0)] [] (fun ⟨i, v⟩ => l.length - i) (fun ⟨i, v⟩ => i ≤ l.length ∧ 0 ≤ mkK (endS) l k i) mix (by kernel_rfl) (0, 0) ?_ ?_ (fun ⟨i, v⟩ ⟨hi, hk0⟩ => ?_); all_goals (try simp (maxSteps := 900000) only [go_sem]); all_goals (try dsimp only at hi hk0))
    | (refine E.NEXT.use [] (i + 1, v + 4) ?_ ?_ ?_; rotate_left 2; focus (simp (maxSteps := 900000) only [go_sem]; (repeat' (first | with_reducible rfl | exact E.RK.mk (by kernel_rfl) | apply And.intro | (push_cast; with_reducible rfl) | (refine E.int_c ?_; omega) | (simp only [go_sem]; done) | (rw [List.map_append]; rfl) | (simp; done) | (simp only [*]; done) | (rfl; done) | (rw [mkL, List.map_set] <;> rfl; done) | fail)); done))
    | (have hw : i < (List.map (eSrv true) (mkL (srvK) (endS) l k i)).length := (by simp only [List.length_map, mkL_len]; omega); simp only [List.getElem?_set_self hw, go_sem])
    | apply And.intro
    | omega
    | refine congrArg (List.map _) ?_
    | (have e : i = l.length := (by omega); subst e; rw [mkL_S]; done)
    | (have e : i = l.length := (by omega); subst e; rw [mkK_S]; done)
    | (exact hk; done)
    | (exact (hb _ (E.at_mem (by omega))).conf.r; done)
    | (exact (hb _ (E.at_mem (by omega))).conf.w; done)
    | (exact (hb _ (E.at_mem (by omega))).log; done)
    | (exact (hb _ (E.at_mem (by omega))).learned; done)
    | (rfl; done)
    | (have g1 := mkK_Sle hb k i (by omega); have g2 := mkK_Sge l k i; have g3 := hb (at' l i) (E.at_mem (by omega)); have g4 := g3.conf.r; have g5 := g3.conf.w; have g6 := g3.log; have g7 := g3.learned; have g8 := mkK_Sge l k (i + 1); omega; done)
    | fail)
end
section
attribute [local go_sem] mdG_eq mdM toNat_pred setI List.length_set mdL_eq E.b_rem decE_self decN_self mkL_len mkL_at List.set_set E.rawCs_nil E.rawCs_s E.rawCs_v E.take_s markI_len markE_len
theorem markU_l (a : Clu) (k : Int) (hB : CluB a) (hk : 0 ≤ k) (hk2 : k ≤ 72057594037927936) : Fn Go.Proofs.Tryz.prog 14 [.a (eClu true a), .c (.v (vi k))] [.a [.d, .s true 12 ((markSs a.srvs k).map (eSrv true)), .s true 1 ((markI a.sides (endSs a.srvs k)).map eInt), .s true 4 ((markCs a.mast.confs (endSs a.srvs k + a.sides.length)).map (eConf true)), .d, .d, .d, .d, .d, .s true 3 ((markP a.plcs (endCs a.mast.confs (endSs a.srvs k + a.sides.length))).map ePlc)], .c .d] [.c (.v (vi (endU a k)))] := by
  refine E.Fn.evH (n := 22) Go.Proofs.Tryz.func14 rfl (by simp [Go.Proofs.Tryz.f14]) Go.Proofs.Tryz.ntmps14 (by simp) (rs := [.tmp 4]) (tys := [3]) rfl rfl (by simp [finOK, A.ts, OWN, ownE, ownT, DE]) (by simp [resOK, A.ts, OWN, ownE, ownT, DE]) (fun H rv hR => ?_)
  have hR0 : ∀ j sz es, (eClu true a)[j]? = some (.s true sz es) → (rv j).oneCell' = true := fun j sz es h => (hR j sz es h).one
  have r1 := hR 1 _ _ rfl
  have q1 := r1.one
  have r2 := hR 2 _ _ rfl
  have q2 := r2.one
  have r3 := hR 3 _ _ rfl
  have q3 := r3.one
  have r9 := hR 9 _ _ rfl
  have q9 := r9.one
  clear hR hR0
  simp only [go_sem]
  repeat' (first
    | (refine E.CALL.use (markSs_l _ _ ?_ ?_ ?_ ?_) ?_ <;> (try simp only [go_sem]))
    | (refine E.CALL.use (markI_l _ _ ?_ ?_ ?_) ?_ <;> (try simp only [go_sem]))
    | (refine E.CALL.use (markM_l _ _ ?_ ?_ ?_) ?_ <;> (try simp only [go_sem]))
    | (refine E.CALL.use (markP_l _ _ ?_ ?_ ?_) ?_ <;> (try simp only [go_sem]))
    | simp only [IJS]
    | (refine E.evh_seq ?_; refine E.evh_reg (id := 0) mdL false (by rfl) ?_; simp only [go_sem])
    | (refine E.evh_seq ?_; refine E.evh_conv (id := 1) mdL false 3 6 [some (0, 1)] (by rfl) ?_; dsimp only [List.take, List.drop]; simp only [go_sem])
    | (apply E.CVT.use1 (t := 6); exact rfl; exact rfl; exact r1; simp only [go_sem])
    | (refine E.evh_seq ?_; refine E.evh_conv (id := 2) mdL false 3 10 [some (0, 2)] (by rfl) ?_; dsimp only [List.take, List.drop]; simp only [go_sem])
    | (apply E.CVT.use1 (t := 10); exact rfl; exact rfl; exact r2; simp only [go_sem])
    | (refine E.evh_seq ?_; refine E.evh_conv (id := 3) mdL false 3 14 [some (0, 3), none] (by rfl) ?_; dsimp only [List.take, List.drop]; simp only [go_sem])
    | (apply E.CVT.useA (t := 14); exact rfl; exact ⟨_, _, _, rfl, rfl, r3, rfl, ⟨_, rfl, rfl⟩⟩; simp only [go_sem])
    | (refine E.evh_seq ?_; refine E.evh_conv (id := 4) mdL false 3 18 [some (0, 9)] (by rfl) ?_; dsimp only [List.take, List.drop]; simp only [go_sem])
    | (apply E.CVT.use1 (t := 18); exact rfl; exact rfl; exact r9; simp only [go_sem])
    | (refine E.evh_seq ?_; refine E.evh_reg (id := 5) mdL false (by rfl) ?_; simp only [go_sem])
    | (refine E.evh_ret ?_; simp only [go_sem])
    | apply And.intro
    | omega
    | (exact hB.srvs; done)
    | (assumption; done)
    | (exact CluB.m (by assumption); done)
    | (exact CluB.sd (by assumption); done)
    | (exact CluB.pl (by assumption); done)
    | (exact CluB.sl (by assumption); done)
    | (have g1 := hB.sl; have g2 := hB.sd; have g3 := hB.m.len; have g4 := hB.pl; have a1 := endSs_le a.srvs k hB.srvs; have b1 := endSs_ge a.srvs k; omega; done)
    | (have g1 := hB.sl; have g2 := hB.sd; have g3 := hB.m.len; have g4 := hB.pl; have a1 := endSs_le a.srvs k hB.srvs; have b1 := endSs_ge a.srvs k; have a2 := endCs_le a.mast.confs (endSs a.srvs k + a.sides.length) hB.m.confs; have b2 := endCs_ge a.mast.confs (endSs a.srvs k + a.sides.length); omega; done)
    | (rfl; done)
    | (exact markCs_len _ _; done)
    | (exact markSs_len _ _; done)
    | (exact markP_len _ _; done)
    | fail)
end
section
attribute [local go_sem] mdG_eq mdM toNat_pred setI List.length_set mdL_eq E.b_rem decE_self decN_self mkL_len mkL_at List.set_set markI_len markE_len beq_self_eq_true Bool.not_true bne_self_eq_false
theorem heldU_x (y0 : Int) (y1 : List Srv) (y2 : List Int) (y3 : List Conf) (y4 : Int) (y5 : Int) (y6 : Int) (y7 : Int) (y8 : Int) (y9 : List Plc) (k : Int) (hB : CluB ⟨y0, y1, y2, ⟨y3, y4⟩, y5, ⟨y6, y7, y8⟩, y9⟩) (hk : 0 ≤ k) (hk2 : k ≤ 72057594037927936) : Fn Go.Proofs.Tryz.prog 15 [.a [.v (vi y0), .s false 12 (y1.map (eSrv false)), .s false 1 (y2.map eInt), .s false 4 (y3.map (eConf false)), .v (vi y4), .v (vi y5), .v (vi y6), .v (vi y7), .v (vi y8), .s false 3 (y9.map ePlc)], .c (.v (vi k))] [.a [.d, .d, .d, .d, .d, .d, .d, .d, .d, .d], .c .d] [.c (.v (vi (heldU ⟨y0, y1, y2, ⟨y3, y4⟩, y5, ⟨y6, y7, y8⟩, y9⟩ k)))] := heldU_l ⟨y0, y1, y2, ⟨y3, y4⟩, y5, ⟨y6, y7, y8⟩, y9⟩ k hB hk hk2
end
section
attribute [local go_sem] mdG_eq mdM toNat_pred setI List.length_set mdL_eq E.b_rem
theorem sealM_i (c : Clu) (id : Int) (e : Int) (hB : CluB c) : Fn Go.Proofs.Tryz.prog 50 [.a (eClu false c), .c (.v (vi id)), .c (.v (vi e))] [.a [.d, .d, .d, .d, .d, .d, .d, .d, .d, .d], .c .d, .c .d] [.a (eClu true (sealM c id e))] := by
  refine E.Fn.ev (n := 73) mdL false mix Go.Proofs.Tryz.func50 rfl (by simp [Go.Proofs.Tryz.f50]) Go.Proofs.Tryz.ntmps50 (by simp) (by kernel_rfl) (rs := [.cell 6 40]) (tys := [40]) rfl rfl (by simp [finOK, A.ts, OWN, ownE, ownT]) (by simp [resOK, A.ts, OWN, ownE, ownT, DE]) ?_
  simp only [go_sem]
  repeat' (first
    | simp only [IJS]
    | (refine E.CALL.use (copyU_i_B _ ?_) ?_ <;> (try simp only [go_sem]))
    | (refine E.CALL.use (lastAct_i_B _ ?_) ?_ <;> (try simp only [go_sem]))
    | (refine E.CALL.use (validClu_i _ ?_) ?_ <;> (try simp only [go_sem]))
    | (refine E.CALL.use (in_i _ _ _) ?_ <;> (try simp only [go_sem]))
    | (refine E.CALL.use (members_i_B _ ?_) ?_ <;> (try simp only [go_sem]))
    | (refine E.CALL.use (sameSide_i _ _ _ ?_) ?_ <;> (try simp only [go_sem]))
    | (refine E.CALL.use (seal_i _ _ ?_) ?_ <;> (try simp only [go_sem]))
    | (refine E.GB.use (fun h => ?_) (fun h => ?_) <;> (simp only [go_sem, h]) <;> (try simp only [HFS] at h))
    | exact E.INDEP.mk2 (by kernel_rfl)
    | exact E.RK.mk (by kernel_rfl)
    | (refine E.IX_map ?_ (fun hx => ?_); rotate_left; simp only [go_sem])
    | (refine E.loopR (ι := Nat × Nat × List Srv) 6 rfl (fun ⟨i, v, s⟩ => [(.s 40, .v (.c (.v (vi i)))), (.k (7, 0), .e ⟨v, 10, [[.v (vi c.now), .s true 12 ((s).map (eSrv true)), .s true 1 (c.sides.map eInt), .s true 4 (c.mast.confs.map (eConf true)), .v (vi c.mast.act), .v (vi c.mup), .v (vi c.lse.epoch), .v (vi c.lse.holder), .v (vi c.lse.til), .s true 3 (c.plcs.map ePlc)]]⟩)]) [1, 2, 3, 6, 7, 38, 39, 72] [(7, 0)] [] (fun ⟨i, v, s⟩ => (membersOf (lastAct c.mast).1).length - i) (fun ⟨i, v, s⟩ => i ≤ (membersOf (lastAct c.mast).1).length ∧ SealI c id e (membersOf (lastAct c.mast).1) i s) mix (by kernel_rfl) (0, 1, c.srvs) ?_ ?_ (fun ⟨i, v, s⟩ ⟨hi, hQ⟩ => ?_); all_goals (try simp (maxSteps := 900000) only [go_sem]); all_goals (try dsimp only at hi hQ))
    | (refine E.NEXT.use [] (i + 1, v + 1, s.set (at' (membersOf (lastAct c.mast).1) i).toNat (sealS (at' s (at' (membersOf (lastAct c.mast).1) i).toNat) e).1) ?_ ?_ ?_; rotate_left 2; focus (simp (maxSteps := 900000) only [go_sem]; (repeat' (first | with_reducible rfl | exact E.RK.mk (by kernel_rfl) | apply And.intro | (push_cast; with_reducible rfl) | (refine E.int_c ?_; omega) | (simp only [go_sem]; done) | (rw [List.map_append]; rfl) | (simp; done) | (simp only [*]; done) | (rw [List.map_set]; rfl; done) | fail)); done))
    | (refine E.NEXT.use [] (i + 1, v, s) ?_ ?_ ?_; rotate_left 2; focus (simp (maxSteps := 900000) only [go_sem]; (repeat' (first | with_reducible rfl | exact E.RK.mk (by kernel_rfl) | apply And.intro | (push_cast; with_reducible rfl) | (refine E.int_c ?_; omega) | (simp only [go_sem]; done) | (rw [List.map_append]; rfl) | (simp; done) | (simp only [*]; done) | (rw [List.map_set]; rfl; done) | fail)); done))
    | apply And.intro
    | omega
    | refine congrArg (List.map _) ?_
    | (have q := members_len (lastAct c.mast).1; omega; done)
    | (have q := members_at (c := (lastAct c.mast).1) (i := i) (by omega); have q2 := validClu_of (c := c) (by assumption); have q3 := hQ.len; omega; done)
    | (exact .start hB; done)
    | (exact hQ.yes (by omega) (by assumption) (by assumption); done)
    | (exact hQ.no (by omega) (.inl (by assumption)); done)
    | (exact hQ.no (by omega) (.inr (by assumption)); done)
    | (exact srvB_at hQ.b _; done)
    | (exact CluB.m (by assumption); done)
    | (exact CluB.sd (by assumption); done)
    | (exact (CluB.m (by assumption)).la; done)
    | ((have q9 := congrArg (fun x : Clu => x.now) (hQ.finM (by omega) (by assumption) (by assumption) (by assumption)); exact q9); done)
    | ((have q9 := congrArg (fun x : Clu => x.srvs) (hQ.finM (by omega) (by assumption) (by assumption) (by assumption)); exact q9); done)
    | ((have q9 := congrArg (fun x : Clu => x.sides) (hQ.finM (by omega) (by assumption) (by assumption) (by assumption)); exact q9); done)
    | ((have q9 := congrArg (fun x : Clu => x.mast.confs) (hQ.finM (by omega) (by assumption) (by assumption) (by assumption)); exact q9); done)
    | ((have q9 := congrArg (fun x : Clu => x.mast.act) (hQ.finM (by omega) (by assumption) (by assumption) (by assumption)); exact q9); done)
    | ((have q9 := congrArg (fun x : Clu => x.mup) (hQ.finM (by omega) (by assumption) (by assumption) (by assumption)); exact q9); done)
    | ((have q9 := congrArg (fun x : Clu => x.lse.epoch) (hQ.finM (by omega) (by assumption) (by assumption) (by assumption)); exact q9); done)
    | ((have q9 := congrArg (fun x : Clu => x.lse.holder) (hQ.finM (by omega) (by assumption) (by assumption) (by assumption)); exact q9); done)
    | ((have q9 := congrArg (fun x : Clu => x.lse.til) (hQ.finM (by omega) (by assumption) (by assumption) (by assumption)); exact q9); done)
    | ((have q9 := congrArg (fun x : Clu => x.plcs) (hQ.finM (by omega) (by assumption) (by assumption) (by assumption)); exact q9); done)
    | (rw [sealM_n (.inl (by assumption))]; done)
    | (rw [sealM_n (.inr (.inl (by assumption)))]; done)
    | (rw [sealM_n (.inr (.inr (by assumption)))]; done)
    | fail)
theorem sealM_s (c : Clu) (id : Int) (e : Int) (hB : CluB c) : Fn Go.Proofs.Tryz.prog 34 [.a (eClu false c), .c (.v (vi id)), .c (.v (vi e))] [.a [.d, .d, .d, .d, .d, .d, .d, .d, .d, .d], .c .d, .c .d] [.a (eClu true (sealM c id e))] := by
  refine E.Fn.ev (n := 85) mdL false mix Go.Proofs.Tryz.func34 rfl (by simp [Go.Proofs.Tryz.f34]) Go.Proofs.Tryz.ntmps34 (by simp) (by kernel_rfl) (rs := [.cell 6 40]) (tys := [40]) rfl rfl (by simp [finOK, A.ts, OWN, ownE, ownT]) (by simp [resOK, A.ts, OWN, ownE, ownT, DE]) ?_
  simp only [go_sem]
  repeat' (first
    | simp only [IJS]
    | (refine E.CALL.use (copyU_s_B _ ?_) ?_ <;> (try simp only [go_sem]))
    | (refine E.CALL.use (lastAct_s_B _ ?_) ?_ <;> (try simp only [go_sem]))
    | (refine E.CALL.use (validClu_s_B _ ?_) ?_ <;> (try simp only [go_sem]))
    | (refine E.CALL.use (in_s _ _ _) ?_ <;> (try simp only [go_sem]))
    | (refine E.CALL.use (members_s_B _ ?_) ?_ <;> (try simp only [go_sem]))
    | (refine E.CALL.use (sameSide_s _ _ _ ?_) ?_ <;> (try simp only [go_sem]))
    | (refine E.CALL.use (seal_s _ _ ?_) ?_ <;> (try simp only [go_sem]))
    | (refine E.GB.use (fun h => ?_) (fun h => ?_) <;> (simp only [go_sem, h]) <;> (try simp only [HFS] at h))
    | exact E.INDEP.mk2 (by kernel_rfl)
    | exact E.RK.mk (by kernel_rfl)
    | (refine E.IX_map ?_ (fun hx => ?_); rotate_left; simp only [go_sem])
    | (refine E.loopR (ι := Nat × Nat × List Srv) 7 rfl (fun ⟨i, v, s⟩ => [(.s 11, .v (.c (.v (vi i)))), (.k (7, 0), .e ⟨v, 10, [[.v (vi c.now), .s true 12 ((s).map (eSrv true)), .s true 1 (c.sides.map eInt), .s true 4 (c.mast.confs.map (eConf true)), .v (vi c.mast.act), .v (vi c.mup), .v (vi c.lse.epoch), .v (vi c.lse.holder), .v (vi c.lse.til), .s true 3 (c.plcs.map ePlc)]]⟩)]) [1, 2, 3, 6, 7, 10, 84] [(7, 0)] [] (fun ⟨i, v, s⟩ => (membersOf (lastAct c.mast).1).length - i) (fun ⟨i, v, s⟩ => i ≤ (membersOf (lastAct c.mast).1).length ∧ SealI c id e (membersOf (lastAct c.mast).1) i s) mix (by kernel_rfl) (0, 1, c.srvs) ?_ ?_ (fun ⟨i, v, s⟩ ⟨hi, hQ⟩ => ?_); all_goals (try simp (maxSteps := 900000) only [go_sem]); all_goals (try dsimp only at hi hQ))
    | (refine E.NEXT.use [] (i + 1, v + 1, s.set (at' (membersOf (lastAct c.mast).1) i).toNat (sealS (at' c.srvs (at' (membersOf (lastAct c.mast).1) i).toNat) e).1) ?_ ?_ ?_; rotate_left 2; focus (simp (maxSteps := 900000) only [go_sem]; (repeat' (first | with_reducible rfl | exact E.RK.mk (by kernel_rfl) | apply And.intro | (push_cast; with_reducible rfl) | (refine E.int_c ?_; omega) | (simp only [go_sem]; done) | (rw [List.map_append]; rfl) | (simp; done) | (simp only [*]; done) | (rw [List.map_set]; rfl; done) | fail)); done))
    | (refine E.NEXT.use [] (i + 1, v, s) ?_ ?_ ?_; rotate_left 2; focus (simp (maxSteps := 900000) only [go_sem]; (repeat' (first | with_reducible rfl | exact E.RK.mk (by kernel_rfl) | apply And.intro | (push_cast; with_reducible rfl) | (refine E.int_c ?_; omega) | (simp only [go_sem]; done) | (rw [List.map_append]; rfl) | (simp; done) | (simp only [*]; done) | (rw [List.map_set]; rfl; done) | fail)); done))
    | apply And.intro
    | omega
    | refine congrArg (List.map _) ?_
    | (have q := members_len (lastAct c.mast).1; omega; done)
    | (have q := members_at (c := (lastAct c.mast).1) (i := i) (by omega); have q2 := validClu_of (c := c) (by assumption); have q3 := hQ.len; omega; done)
    | (exact .start hB; done)
    | (exact hQ.yes_s (by omega) (by assumption) (by assumption); done)
    | (exact hQ.no_s (by omega) (.inl (by assumption)); done)
    | (exact hQ.no_s (by omega) (.inr (by assumption)); done)
    | (exact (CluB.at (by assumption) _); done)
    | (exact CluB.m (by assumption); done)
    | (exact CluB.sd (by assumption); done)
    | (exact (CluB.m (by assumption)).la; done)
    | ((have q9 := congrArg (fun x : Clu => x.now) (hQ.finM (by omega) (by assumption) (by assumption) (by assumption)); exact q9); done)
    | ((have q9 := congrArg (fun x : Clu => x.srvs) (hQ.finM (by omega) (by assumption) (by assumption) (by assumption)); exact q9); done)
    | ((have q9 := congrArg (fun x : Clu => x.sides) (hQ.finM (by omega) (by assumption) (by assumption) (by assumption)); exact q9); done)
    | ((have q9 := congrArg (fun x : Clu => x.mast.confs) (hQ.finM (by omega) (by assumption) (by assumption) (by assumption)); exact q9); done)
    | ((have q9 := congrArg (fun x : Clu => x.mast.act) (hQ.finM (by omega) (by assumption) (by assumption) (by assumption)); exact q9); done)
    | ((have q9 := congrArg (fun x : Clu => x.mup) (hQ.finM (by omega) (by assumption) (by assumption) (by assumption)); exact q9); done)
    | ((have q9 := congrArg (fun x : Clu => x.lse.epoch) (hQ.finM (by omega) (by assumption) (by assumption) (by assumption)); exact q9); done)
    | ((have q9 := congrArg (fun x : Clu => x.lse.holder) (hQ.finM (by omega) (by assumption) (by assumption) (by assumption)); exact q9); done)
    | ((have q9 := congrArg (fun x : Clu => x.lse.til) (hQ.finM (by omega) (by assumption) (by assumption) (by assumption)); exact q9); done)
    | ((have q9 := congrArg (fun x : Clu => x.plcs) (hQ.finM (by omega) (by assumption) (by assumption) (by assumption)); exact q9); done)
    | (rw [sealM_n (.inl (by assumption))]; done)
    | (rw [sealM_n (.inr (.inl (by assumption)))]; done)
    | (rw [sealM_n (.inr (.inr (by assumption)))]; done)
    | fail)
end
end Go.Abs

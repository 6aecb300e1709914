/- Contracts of functions of the program, over the abstract machine, and facts for them. No condition. -/
import Derived.Test.YtijifinpifomcaaGreatFacts
import Derived.Test.YtijifinpifomcaaGreatPure25
import Derived.Test.YtijifinpifomcaaGreatQ10
import Derived.Test.YtijifinpifomcaaGreatQ3
import Derived.Test.YtijifinpifomcaaGreatQ43
import Derived.Test.YtijifinpifomcaaGreatQ8
import Derived.Test.YtijifinpifomcaaGreatQ9
set_option linter.unusedVariables false
set_option linter.unusedSimpArgs false
set_option linter.unnecessarySimpa false
set_option linter.constructorNameAsVariable false
set_option maxHeartbeats 4000000
set_option maxRecDepth 100000
namespace Go.Abs
open Go
attribute [local go_sem ↓] E.argsA_h E.wq_ret E.wq_req E.wq_bad E.wq_call E.wq_get E.wq_getO E.wq_getOs E.wq_getPs E.wq_fresh E.wq_anyNil E.wq_getR0 E.wq_getR E.wq_ixM E.wq_n E.wq_g E.wq_gn E.ev_skip E.ev_region E.ev_draw E.ev_seq E.ev_cond E.ev_block E.ev_exit E.ev_ret E.sq_n E.sq_e E.sq_r E.bl_n E.bl_e E.bl_r E.lp_n E.lp_e E.lp_r E.fk_n E.fk_r E.q_move E.q_assign E.q_pick E.q_bin E.q_binw E.q_un E.q_alloc E.q_box E.q_build E.q_buildS E.q_makeS E.q_load E.q_store E.q_nilCheck E.q_slice E.q_fieldAddr E.q_field E.q_indexAddr E.q_extract E.q_makeFunc E.q_call E.q_callT E.q_len E.q_append E.q_min E.q_max E.q_convert E.q_cap E.q_clear appendIM appendZM E.b_add E.b_sub E.b_mul E.b_eql E.b_neq E.b_lss E.b_leq E.b_gtr E.b_geq E.GO_tmp E.GO_int E.GO_bool E.GO_str E.GO_nil E.GO_func E.GOs_nil E.GOs_cons E.GPs_nil E.GPs_cons E.RW_nil E.RW_cons E.dstAt_0 E.dstAt_s E.keepL_nil E.keepL_s E.keepL_k E.rmN_nil E.rmN_cons E.memN_nil E.memN_cons E.memK_nil E.memK_cons E.ovl_nil E.ovl_kk E.ovl_sk E.ovl_ks E.ovl_ss ofL_s ofL_sk ofL_ks ofL_k ofL_nil E.CO_tmp E.CO_bool
attribute [local go_sem] E.RM_nil E.RM_cons E.kd_k E.sbr_eq E.s3_nil E.s3_s E.s3_k E.vr_c E.vr_a E.vr_p E.vr_q E.vr_t E.vr_f E.vr_u E.cr_r E.cr_v E.cr_b E.cr_n E.cr_u E.crs_nil E.crs_cons E.renK_nil E.renK_cons keysVs V.keys C.keys keysCs E.RG_nil E.RG_cons E.GV_v E.GB_true E.GB_false E.GX_b E.GG_t E.GG_f E.GG_u E.GU_some E.IX_0 E.IX_s E.CX_s E.FR_none E.EN_e E.GVB_b E.b_boolM E.b_nilM E.b_strM E.b_aggM
attribute [local go_sem] List.cons_append List.nil_append List.append_nil List.length_cons List.length_nil List.length_map List.length_append callM E.argsH_nil E.argsH_cons E.argH_c E.argH_a E.argH_f E.argH_p ptrH_s E.cellsH_nil E.cellsH_cons E.cellH_v E.cellH_b E.cellH_n E.cellH_nt E.cellH_u E.cellH_rt E.cellH_rf capsA capA callable backs backT resVs resV resC tupV lenV intV boolV getE getO entryL entryKs A.ts entryV entryC entryCs entryCap List.map_cons List.map_nil E.cut_n E.cut_r E.cutM plainL A.lastOK T.lastOK Bool.false_or A.capOK szEs szE szT SZ whole toB toC List.drop_zero List.take_zero List.take_succ_cons List.drop_succ_cons resultsM resultM outM outM1 convs conv finAs finA finT finTs Int.toNat_natCast A.plain T.plain List.isEmpty_nil List.isEmpty_cons Bool.or_true Bool.true_or Bool.and_self List.getElem?_cons_zero List.getElem?_cons_succ Option.bind_some Option.bind_none Option.bind Nat.zero_add Nat.add_zero OWN BOR ONE SCAL DE ETA E.take_rest Int.toNat_zero E.take_map E.drop_map E.take_len1 List.take_length E.app_map Int.natCast_zero Int.sub_zero Int.toNat_sub partCells V.cells convsL appendM srcM E.scalEs_nil E.scalEs_cons E.oneEs_nil E.oneEs_cons List.all_cons List.all_nil T.one Bool.and_true gone ownEs ownE ownT borEs borE borT setRow splice List.set_cons_zero List.set_cons_succ optI getOpt sliceM ptrTo app_ofL T.isV Value.oneCell' fillC zeroC spliceC allV eqVs eqV minV maxV setAt setCell holed List.dropLast List.getLast?_singleton Option.getD_some Option.isSome_some Option.isSome_none Bool.and_false Bool.true_and Bool.false_and Option.map_some Option.map_none false_or true_or or_true rowAt cellAt E.constV_nil E.constV_int E.constV_bool E.constV_str E.setCell_set E.setCell_len setRow setAt List.dropLast_cons_cons List.dropLast_singleton List.getLast?_cons_cons
attribute [local go_sem_proc ↓] reduceIte
attribute [local go_sem_proc] Nat.reduceEqDiff reduceCtorEq Nat.reduceAdd Nat.reduceMul
attribute [local irreducible] E.argsH E.argH E.cellsH E.cellH E.GV E.GB E.GX E.GG E.GU E.IX E.CX E.RW E.FR E.EN E.CALL E.GO E.GOs E.GPs E.GVB E.KD E.RM E.RG E.CO E.WQ E.EV E.SQ E.BL E.LP E.FK E.S3 E.RK E.NEXT E.NQ E.INDEP
section
attribute [local go_sem] mdG_eq mdM toNat_pred setI List.length_set
theorem cloneE_c (l : List LEnt) (hl : l.length ≤ 1048576) : Fn Go.Proofs.Tryz.prog 72 [.c (.s false 7 (l.map eLEnt))] [.c .d] [.c (.s true 7 ((l).map eLEnt))] := by
  refine E.Fn.ev (n := 8) mdG false mix Go.Proofs.Tryz.func72 rfl (by simp [Go.Proofs.Tryz.f72]) Go.Proofs.Tryz.ntmps72 (by simp) (by kernel_rfl) (rs := [.tmp 2]) (tys := [51]) rfl rfl (by simp [finOK, A.ts, OWN, ownE, ownT]) (by simp [resOK, A.ts, OWN, ownE, ownT, DE]) ?_
  simp only [go_sem]
  repeat' (first
    | simp only [IJS]
    | (refine E.GB.use (fun h => ?_) (fun h => ?_) <;> (simp only [go_sem, h]) <;> (try simp only [HFS] at h))
    | (refine E.NQ.use (fun b hb => ?_); simp only [go_sem])
    | apply And.intro
    | omega
    | (exact (hb h).symm; done)
    | fail)
theorem cloneP_c (l : List Plc) (hl : l.length ≤ 1048576) : Fn Go.Proofs.Tryz.prog 98 [.c (.s false 3 (l.map ePlc))] [.c .d] [.c (.s true 3 ((l).map ePlc))] := by
  refine E.Fn.ev (n := 8) mdG false mix Go.Proofs.Tryz.func98 rfl (by simp [Go.Proofs.Tryz.f98]) Go.Proofs.Tryz.ntmps98 (by simp) (by kernel_rfl) (rs := [.tmp 2]) (tys := [38]) rfl rfl (by simp [finOK, A.ts, OWN, ownE, ownT]) (by simp [resOK, A.ts, OWN, ownE, ownT, DE]) ?_
  simp only [go_sem]
  repeat' (first
    | simp only [IJS]
    | (refine E.GB.use (fun h => ?_) (fun h => ?_) <;> (simp only [go_sem, h]) <;> (try simp only [HFS] at h))
    | (refine E.NQ.use (fun b hb => ?_); simp only [go_sem])
    | apply And.intro
    | omega
    | (exact (hb h).symm; done)
    | fail)
theorem copyC_i (c : Conf) (h1 : c.reps.length ≤ 1048576) (h2 : c.wits.length ≤ 1048576) : Fn Go.Proofs.Tryz.prog 71 [.a (eConf false c)] [.a [.d, .d, .d, .d]] [.a (eConf true (c))] := by
  refine E.Fn.ev (n := 16) mdG false mix Go.Proofs.Tryz.func71 rfl (by simp [Go.Proofs.Tryz.f71]) Go.Proofs.Tryz.ntmps71 (by simp) (by kernel_rfl) (rs := [.cell 2 50]) (tys := [50]) rfl rfl (by simp [finOK, A.ts, OWN, ownE, ownT]) (by simp [resOK, A.ts, OWN, ownE, ownT, DE]) ?_
  simp only [go_sem]
  repeat' (first
    | simp only [IJS]
    | exact E.INDEP.mk2 (by kernel_rfl)
    | apply And.intro
    | omega
    | fail)
theorem copyS_i (s : Srv) (h1 : s.conf.reps.length ≤ 1048576) (h2 : s.conf.wits.length ≤ 1048576) (h3 : s.log.length ≤ 1048576) (h4 : s.learned.length ≤ 1048576) : Fn Go.Proofs.Tryz.prog 46 [.a (eSrv false s)] [.a [.d, .d, .d, .d, .d, .d, .d, .d, .d, .d, .d, .d]] [.a (eSrv true (s))] := by
  refine E.Fn.ev (n := 16) mdG false mix Go.Proofs.Tryz.func46 rfl (by simp [Go.Proofs.Tryz.f46]) Go.Proofs.Tryz.ntmps46 (by simp) (by kernel_rfl) (rs := [.cell 2 53]) (tys := [53]) rfl rfl (by simp [finOK, A.ts, OWN, ownE, ownT]) (by simp [resOK, A.ts, OWN, ownE, ownT, DE]) ?_
  simp only [go_sem]
  repeat' (first
    | simp only [IJS]
    | (refine E.CALL.use (copyC_i _ ?_ ?_) ?_ <;> (try simp only [go_sem]))
    | (refine E.CALL.use (cloneE_c _ ?_) ?_ <;> (try simp only [go_sem]))
    | exact E.INDEP.mk2 (by kernel_rfl)
    | apply And.intro
    | omega
    | fail)
theorem copyM_i (m : MLog) (hml : m.confs.length ≤ 1048576) (hm : ∀ c ∈ m.confs, c.reps.length ≤ 1048576 ∧ c.wits.length ≤ 1048576) : Fn Go.Proofs.Tryz.prog 97 [.a (eMLog false m)] [.a [.d, .d]] [.a (eMLog true (m))] := by
  refine E.Fn.ev (n := 25) mdG false mix Go.Proofs.Tryz.func97 rfl (by simp [Go.Proofs.Tryz.f97]) Go.Proofs.Tryz.ntmps97 (by simp) (by kernel_rfl) (rs := [.cell 2 36]) (tys := [36]) rfl rfl (by simp [finOK, A.ts, OWN, ownE, ownT]) (by simp [resOK, A.ts, OWN, ownE, ownT, DE]) ?_
  simp only [go_sem]
  repeat' (first
    | simp only [IJS]
    | (refine E.CALL.use (copyC_i _ ?_ ?_) ?_ <;> (try simp only [go_sem]))
    | (refine E.GB.use (fun h => ?_) (fun h => ?_) <;> (simp only [go_sem, h]) <;> (try simp only [HFS] at h))
    | exact E.INDEP.mk2 (by kernel_rfl)
    | exact E.RK.mk (by kernel_rfl)
    | (refine E.IX_map ?_ (fun hx => ?_); rotate_left; simp only [go_sem])
    | (refine E.loopR (ι := Nat × Nat) 3 rfl (fun ⟨i, v⟩ => [(.s 12, .v (.c (.v (vi i)))), (.k (3, 0), .e ⟨v, 2, [[.s true 4 ((m.confs.take i).map (eConf true)), .v (vi m.act)]]⟩)]) [2, 3, 10, 11, 24] [(3, 0)] [] (fun ⟨i, v⟩ => m.confs.length - i) (fun ⟨i, v⟩ => i ≤ m.confs.length ∧ v = v) mix (by kernel_rfl) (0, 1) ?_ ?_ (fun ⟨i, v⟩ ⟨hi, hv⟩ => ?_); all_goals (try simp (maxSteps := 900000) only [go_sem]); all_goals (try dsimp only at hi hv))
    | (refine E.NEXT.use [] (i + 1, v + 1) ?_ ?_ ?_; rotate_left 2; focus (simp (maxSteps := 900000) only [go_sem]; (repeat' (first | with_reducible rfl | exact E.RK.mk (by kernel_rfl) | apply And.intro | (push_cast; with_reducible rfl) | (refine E.int_c ?_; omega) | (simp only [go_sem]; done) | (rw [List.map_append]; rfl) | (simp; done) | (simp only [*]; done) | (rw [E.take_at, List.map_append] <;> first | rfl | omega; done) | fail)); done))
    | apply And.intro
    | omega
    | (simp only [List.length_take, List.length_drop, List.length_append, List.length_set, List.length_cons, List.length_nil]; omega)
    | refine congrArg (List.map _) ?_
    | (exact (hm _ (E.at_mem (by omega))).1; done)
    | (exact (hm _ (E.at_mem (by omega))).2; done)
    | (have e : i = m.confs.length := (by omega); subst e; simp; done)
    | fail)
theorem copyU_i (c : Clu) (hs : ∀ s ∈ c.srvs, (s.conf.reps.length ≤ 1048576 ∧ s.conf.wits.length ≤ 1048576) ∧ s.log.length ≤ 1048576 ∧ s.learned.length ≤ 1048576) (hsl : c.srvs.length ≤ 1048576) (hsd : c.sides.length ≤ 1048576) (hml : c.mast.confs.length ≤ 1048576) (hm : ∀ x ∈ c.mast.confs, x.reps.length ≤ 1048576 ∧ x.wits.length ≤ 1048576) (hpl : c.plcs.length ≤ 1048576) : Fn Go.Proofs.Tryz.prog 42 [.a (eClu false c)] [.a [.d, .d, .d, .d, .d, .d, .d, .d, .d, .d]] [.a (eClu true (c))] := by
  refine E.Fn.ev (n := 36) mdG false mix Go.Proofs.Tryz.func42 rfl (by simp [Go.Proofs.Tryz.f42]) Go.Proofs.Tryz.ntmps42 (by simp) (by kernel_rfl) (rs := [.cell 2 40]) (tys := [40]) rfl rfl (by simp [finOK, A.ts, OWN, ownE, ownT]) (by simp [resOK, A.ts, OWN, ownE, ownT, DE]) ?_
  simp only [go_sem]
  repeat' (first
    | simp only [IJS]
    | (refine E.CALL.use (copyS_i _ ?_ ?_ ?_ ?_) ?_ <;> (try simp only [go_sem]))
    | (refine E.CALL.use (clone_c _ ?_) ?_ <;> (try simp only [go_sem]))
    | (refine E.CALL.use (copyM_i _ ?_ ?_) ?_ <;> (try simp only [go_sem]))
    | (refine E.CALL.use (cloneP_c _ ?_) ?_ <;> (try simp only [go_sem]))
    | (refine E.GB.use (fun h => ?_) (fun h => ?_) <;> (simp only [go_sem, h]) <;> (try simp only [HFS] at h))
    | exact E.INDEP.mk2 (by kernel_rfl)
    | exact E.RK.mk (by kernel_rfl)
    | (refine E.IX_map ?_ (fun hx => ?_); rotate_left; simp only [go_sem])
    | (refine E.loopR (ι := Nat × Nat) 4 rfl (fun ⟨i, v⟩ => [(.s 11, .v (.c (.v (vi i)))), (.k (3, 0), .e ⟨v, 10, [[.v (vi c.now), .s true 12 ((c.srvs.take i).map (eSrv true)), .s false 1 (c.sides.map eInt), .s false 4 (c.mast.confs.map (eConf false)), .v (vi c.mast.act), .v (vi c.mup), .v (vi c.lse.epoch), .v (vi c.lse.holder), .v (vi c.lse.til), .s false 3 (c.plcs.map ePlc)]]⟩)]) [1, 2, 3, 9, 10, 23, 24, 25, 26, 27, 28, 29, 30, 31, 32, 33, 34, 35] [(3, 0)] [] (fun ⟨i, v⟩ => c.srvs.length - i) (fun ⟨i, v⟩ => i ≤ c.srvs.length ∧ v = v) mix (by kernel_rfl) (0, 2) ?_ ?_ (fun ⟨i, v⟩ ⟨hi, hv⟩ => ?_); all_goals (try simp (maxSteps := 900000) only [go_sem]); all_goals (try dsimp only at hi hv))
    | (refine E.NEXT.use [] (i + 1, v + 1) ?_ ?_ ?_; rotate_left 2; focus (simp (maxSteps := 900000) only [go_sem]; (repeat' (first | with_reducible rfl | exact E.RK.mk (by kernel_rfl) | apply And.intro | (push_cast; with_reducible rfl) | (refine E.int_c ?_; omega) | (simp only [go_sem]; done) | (rw [List.map_append]; rfl) | (simp; done) | (simp only [*]; done) | (rw [E.take_at, List.map_append] <;> first | rfl | omega; done) | fail)); done))
    | apply And.intro
    | omega
    | (simp only [List.length_take, List.length_drop, List.length_append, List.length_set, List.length_cons, List.length_nil]; omega)
    | refine congrArg (List.map _) ?_
    | (exact (hs _ (E.at_mem (by omega))).1.1; done)
    | (exact (hs _ (E.at_mem (by omega))).1.2; done)
    | (exact (hs _ (E.at_mem (by omega))).2.1; done)
    | (exact (hs _ (E.at_mem (by omega))).2.2; done)
    | (rw [List.take_of_length_le (by omega)]; done)
    | fail)
theorem validConf_i (c : Conf) (h1 : c.reps.length ≤ 1048576) (h2 : c.wits.length ≤ 1048576) : Fn Go.Proofs.Tryz.prog 83 [.a (eConf false c)] [.a [.d, .d, .d, .d]] [.c (.v (.bool (validConf c)))] := by
  refine E.Fn.ev (n := 32) mdG false mix Go.Proofs.Tryz.func83 rfl (by simp [Go.Proofs.Tryz.f83]) Go.Proofs.Tryz.ntmps83 (by simp) (by kernel_rfl) (rs := [.tmp 2]) (tys := [4]) rfl rfl (by simp [finOK, A.ts, OWN, ownE, ownT]) (by simp [resOK, A.ts, OWN, ownE, ownT, DE]) ?_
  simp only [go_sem]
  repeat' (first
    | simp only [IJS]
    | (refine E.CALL.use (in_i _ _ _) ?_ <;> (try simp only [go_sem]))
    | (refine E.CALL.use (areSrv_i _ ?_) ?_ <;> (try simp only [go_sem]))
    | (refine E.CALL.use (has_i _ _ ?_) ?_ <;> (try simp only [go_sem]))
    | (refine E.CALL.use (common_i _ _ ?_ ?_) ?_ <;> (try simp only [go_sem]))
    | (refine E.GB.use (fun h => ?_) (fun h => ?_) <;> (simp only [go_sem, h]) <;> (try simp only [HFS] at h))
    | apply And.intro
    | omega
    | (have := areServers_len (l := c.reps) (by assumption); omega; done)
    | (simp_all [validConf]; done)
    | fail)
theorem role_i (c : Conf) (id : Int) (h1 : c.reps.length ≤ 1048576) (h2 : c.wits.length ≤ 1048576) : Fn Go.Proofs.Tryz.prog 20 [.a (eConf false c), .c (.v (vi id))] [.a [.d, .d, .d, .d], .c .d] [.c (.v (vi (roleOf c id)))] := by
  refine E.Fn.ev (n := 24) mdG false mix Go.Proofs.Tryz.func20 rfl (by simp [Go.Proofs.Tryz.f20]) Go.Proofs.Tryz.ntmps20 (by simp) (by kernel_rfl) (rs := [.tmp 4]) (tys := [3]) rfl rfl (by simp [finOK, A.ts, OWN, ownE, ownT]) (by simp [resOK, A.ts, OWN, ownE, ownT, DE]) ?_
  simp only [go_sem]
  repeat' (first
    | simp only [IJS]
    | (refine E.CALL.use (validConf_i _ ?_ ?_) ?_ <;> (try simp only [go_sem]))
    | (refine E.CALL.use (has_i _ _ ?_) ?_ <;> (try simp only [go_sem]))
    | (refine E.GB.use (fun h => ?_) (fun h => ?_) <;> (simp only [go_sem, h]) <;> (try simp only [HFS] at h))
    | apply And.intro
    | omega
    | (simp_all [roleOf]; done)
    | fail)
theorem isML_i (m : MLog) (hml : m.confs.length ≤ 1048576) (hm : ∀ c ∈ m.confs, c.reps.length ≤ 1048576 ∧ c.wits.length ≤ 1048576) : Fn Go.Proofs.Tryz.prog 157 [.a (eMLog false m)] [.a [.d, .d]] [.c (.v (.bool (isML m)))] := by
  refine E.Fn.ev (n := 30) mdG false mix Go.Proofs.Tryz.func157 rfl (by simp [Go.Proofs.Tryz.f157]) Go.Proofs.Tryz.ntmps157 (by simp) (by kernel_rfl) (rs := [.tmp 2]) (tys := [4]) rfl rfl (by simp [finOK, A.ts, OWN, ownE, ownT]) (by simp [resOK, A.ts, OWN, ownE, ownT, DE]) ?_
  simp only [go_sem]
  repeat' (first
    | simp only [IJS]
    | (refine E.CALL.use (validConf_i _ ?_ ?_) ?_ <;> (try simp only [go_sem]))
    | (refine E.CALL.use (in_i _ _ _) ?_ <;> (try simp only [go_sem]))
    | (refine E.GB.use (fun h => ?_) (fun h => ?_) <;> (simp only [go_sem, h]) <;> (try simp only [HFS] at h))
    | exact E.RK.mk (by kernel_rfl)
    | (refine E.IX_map ?_ (fun hx => ?_); rotate_left; simp only [go_sem])
    | (refine E.loopR (ι := Nat) 2 rfl (fun i => [(.s 8, .v (.c (.v (vi i))))]) [1, 6, 7, 24, 25, 26, 27, 28, 29] [] [] (fun i => (m.confs).length - i) (fun i => i ≤ (m.confs).length ∧ (confsGo i (m.confs.drop i) && inR m.act 0 m.confs.length) = isML m) mix (by kernel_rfl) 0 ?_ ?_ (fun i ⟨hi, hR⟩ => ?_); all_goals (try simp (maxSteps := 900000) only [go_sem]); all_goals (try dsimp only at hi hR))
    | (refine E.NEXT.use [] (i + 1) ?_ ?_ ?_; rotate_left 2; focus (simp (maxSteps := 900000) only [go_sem]; (repeat' (first | with_reducible rfl | exact E.RK.mk (by kernel_rfl) | apply And.intro | (push_cast; with_reducible rfl) | (refine E.int_c ?_; omega) | (simp only [go_sem]; done) | (rw [List.map_append]; rfl) | (simp; done) | (simp only [*]; done) | fail)); done))
    | apply And.intro
    | omega
    | (exact (hm _ (E.at_mem (by omega))).1; done)
    | (exact (hm _ (E.at_mem (by omega))).2; done)
    | (rw [drop_at (l := m.confs) (i := i) (by omega)] at hR; rw [← hR]; simp [confsGo, *]; done)
    | (rw [E.drop_end (l := m.confs) (i := i) (by omega)] at hR; rw [← hR]; simp [confsGo]; done)
    | (rfl; done)
    | fail)
theorem isLease_i (l : Lse) : Fn Go.Proofs.Tryz.prog 158 [.a (eLse l)] [.a [.d, .d, .d]] [.c (.v (.bool (isLease l)))] := by
  refine E.Fn.ev (n := 21) mdG false mix Go.Proofs.Tryz.func158 rfl (by simp [Go.Proofs.Tryz.f158]) Go.Proofs.Tryz.ntmps158 (by simp) (by kernel_rfl) (rs := [.tmp 2]) (tys := [4]) rfl rfl (by simp [finOK, A.ts, OWN, ownE, ownT]) (by simp [resOK, A.ts, OWN, ownE, ownT, DE]) ?_
  simp only [go_sem]
  repeat' (first
    | simp only [IJS]
    | (refine E.CALL.use (in_i _ _ _) ?_ <;> (try simp only [go_sem]))
    | (refine E.GB.use (fun h => ?_) (fun h => ?_) <;> (simp only [go_sem, h]) <;> (try simp only [HFS] at h))
    | apply And.intro
    | omega
    | (have q := isLease_no h; subst q; simp [isLease]; done)
    | (have := isLease_ne (by assumption); simp_all [isLease]; done)
    | fail)
theorem any_not {α : Type} (p : α → Bool) : ∀ l : List α, (!(l.any fun x => !p x)) = l.all p
  | [] => rfl
  | x :: l => by simp [← any_not p l]
theorem notPlc_c (p : Plc) : Fn Go.Proofs.Tryz.prog 168 [.a (ePlc p)] [.a [.d, .d, .d]] [.c (.v (.bool (!okPlc p)))] := by
  refine E.Fn.ev (n := 19) mdG false mix Go.Proofs.Tryz.func168 rfl (by simp [Go.Proofs.Tryz.f168]) Go.Proofs.Tryz.ntmps168 (by simp) (by kernel_rfl) (rs := [.tmp 2]) (tys := [4]) rfl rfl (by simp [finOK, A.ts, OWN, ownE, ownT]) (by simp [resOK, A.ts, OWN, ownE, ownT, DE]) ?_
  simp only [go_sem]
  repeat' (first
    | simp only [IJS]
    | (refine E.CALL.use (in_i _ _ _) ?_ <;> (try simp only [go_sem]))
    | (refine E.GB.use (fun h => ?_) (fun h => ?_) <;> (simp only [go_sem, h]) <;> (try simp only [HFS] at h))
    | apply And.intro
    | omega
    | (simp [okPlc, *]; done)
    | fail)
theorem arePlc_i (l : List Plc) (hl : l.length ≤ 1048576) : Fn Go.Proofs.Tryz.prog 159 [.c (.s false 3 (l.map ePlc))] [.c .d] [.c (.v (.bool (arePlaces l)))] := by
  refine E.Fn.ev (n := 11) mdG false mix Go.Proofs.Tryz.func159 rfl (by simp [Go.Proofs.Tryz.f159]) Go.Proofs.Tryz.ntmps159 (by simp) (by kernel_rfl) (rs := [.tmp 2]) (tys := [4]) rfl rfl (by simp [finOK, A.ts, OWN, ownE, ownT]) (by simp [resOK, A.ts, OWN, ownE, ownT, DE]) ?_
  simp only [go_sem]
  repeat' (first
    | simp only [IJS]
    | (refine E.CALL.use (anyF_P0 l (fun p => !okPlc p) 168 hl (fun x _ => notPlc_c x)) ?_ <;> (try simp only [go_sem]))
    | (refine E.GB.use (fun h => ?_) (fun h => ?_) <;> (simp only [go_sem, h]) <;> (try simp only [HFS] at h))
    | (rw [any_not okPlc l, arePlaces, beq_iff_eq.2 h, Bool.true_and]; rfl; done)
    | (simp_all [arePlaces]; done)
    | fail)
theorem confAt_i (m : MLog) (e : Int) (hml : m.confs.length ≤ 1048576) (hm : ∀ c ∈ m.confs, c.reps.length ≤ 1048576 ∧ c.wits.length ≤ 1048576) : Fn Go.Proofs.Tryz.prog 160 [.a (eMLog false m), .c (.v (vi e))] [.a [.d, .d], .c .d] [.a (eConf true ((confAt m e).1)), .c (.v (.bool ((confAt m e).2)))] := by
  refine E.Fn.ev (n := 25) mdG false mix Go.Proofs.Tryz.func160 rfl (by simp [Go.Proofs.Tryz.f160]) Go.Proofs.Tryz.ntmps160 (by simp) (by kernel_rfl) (rs := [.cell 4 50, .tmp 5]) (tys := [50, 4]) rfl rfl (by simp [finOK, A.ts, OWN, ownE, ownT]) (by simp [resOK, A.ts, OWN, ownE, ownT, DE]) ?_
  simp only [go_sem]
  repeat' (first
    | simp only [IJS]
    | (refine E.CALL.use (isML_i _ ?_ ?_) ?_ <;> (try simp only [go_sem]))
    | (refine E.CALL.use (in_i _ _ _) ?_ <;> (try simp only [go_sem]))
    | (refine E.CALL.use (copyC_i _ ?_ ?_) ?_ <;> (try simp only [go_sem]))
    | (refine E.GB.use (fun h => ?_) (fun h => ?_) <;> (simp only [go_sem, h]) <;> (try simp only [HFS] at h))
    | (refine E.IX_map ?_ (fun hx => ?_); rotate_left; simp only [go_sem])
    | apply And.intro
    | omega
    | refine congrArg (List.map _) ?_
    | (have q := inR_of (x := e) (by assumption); omega; done)
    | (have q := inR_of (x := e) (by assumption); exact (hm _ (E.at_mem (by omega))).1; done)
    | (have q := inR_of (x := e) (by assumption); exact (hm _ (E.at_mem (by omega))).2; done)
    | (simp [confAt, noConf, *]; done)
    | fail)
end
section
attribute [local go_sem] mdG_eq mdM toNat_pred setI List.length_set eLI_eq eLE_eq
theorem eqConf_i_B (a : Conf) (b : Conf) (hA : ConfB a) (hB : ConfB b) : Fn Go.Proofs.Tryz.prog 45 [.a (eConf false a), .a (eConf false b)] [.a [.d, .d, .d, .d], .a [.d, .d, .d, .d]] [.c (.v (.bool (decide (a = b))))] := eqConf_i a b hA.r hA.w hB.r hB.w
theorem eqConf_s_B (a : Conf) (b : Conf) (hA : ConfB a) (hB : ConfB b) : Fn Go.Proofs.Tryz.prog 34 [.a (eConf false a), .a (eConf false b)] [.a [.d, .d, .d, .d], .a [.d, .d, .d, .d]] [.c (.v (.bool (decide (a = b))))] := eqConf_s a b hA.r hA.w hB.r hB.w
theorem role_s_B (c : Conf) (id : Int) (hB : ConfB c) : Fn Go.Proofs.Tryz.prog 74 [.a (eConf false c), .c (.v (vi id))] [.a [.d, .d, .d, .d], .c .d] [.c (.v (vi (roleOf c id)))] := role_s c id hB.r hB.w
theorem copyU_s_B (c : Clu) (hB : CluB c) : Fn Go.Proofs.Tryz.prog 32 [.a (eClu false c)] [.a [.d, .d, .d, .d, .d, .d, .d, .d, .d, .d]] [.a (eClu true (c))] := copyU_s c hB.hs hB.sl hB.sd hB.m.len hB.m.hm hB.pl
theorem validClu_s_B (c : Clu) (hB : CluB c) : Fn Go.Proofs.Tryz.prog 132 [.a (eClu false c)] [.a [.d, .d, .d, .d, .d, .d, .d, .d, .d, .d]] [.c (.v (.bool (validClu c)))] := validClu_s c hB.hs hB.sl hB.sd hB.m.len hB.m.hm hB.pl
theorem copyS_i_B (s : Srv) (hB : SrvB s) : Fn Go.Proofs.Tryz.prog 46 [.a (eSrv false s)] [.a [.d, .d, .d, .d, .d, .d, .d, .d, .d, .d, .d, .d]] [.a (eSrv true (s))] := copyS_i s hB.conf.r hB.conf.w hB.log hB.learned
theorem copyU_i_B (c : Clu) (hB : CluB c) : Fn Go.Proofs.Tryz.prog 42 [.a (eClu false c)] [.a [.d, .d, .d, .d, .d, .d, .d, .d, .d, .d]] [.a (eClu true (c))] := copyU_i c hB.hs hB.sl hB.sd hB.m.len hB.m.hm hB.pl
theorem role_i_B (c : Conf) (id : Int) (hB : ConfB c) : Fn Go.Proofs.Tryz.prog 20 [.a (eConf false c), .c (.v (vi id))] [.a [.d, .d, .d, .d], .c .d] [.c (.v (vi (roleOf c id)))] := role_i c id hB.r hB.w
theorem isML_i_B (m : MLog) (hM : MLB m) : Fn Go.Proofs.Tryz.prog 157 [.a (eMLog false m)] [.a [.d, .d]] [.c (.v (.bool (isML m)))] := isML_i m hM.len hM.hm
theorem confAt_i_B (m : MLog) (e : Int) (hM : MLB m) : Fn Go.Proofs.Tryz.prog 160 [.a (eMLog false m), .c (.v (vi e))] [.a [.d, .d], .c .d] [.a (eConf true ((confAt m e).1)), .c (.v (.bool ((confAt m e).2)))] := confAt_i m e hM.len hM.hm
end
section
attribute [local go_sem] mdG_eq mdM toNat_pred setI List.length_set eLI_eq eLE_eq
theorem notSide_c (x : Int) : Fn Go.Proofs.Tryz.prog 137 [.c (.v (vi x))] [.c .d] [.c (.v (.bool (!side x)))] := by
  refine E.Fn.ev (n := 6) mdG false mix Go.Proofs.Tryz.func137 rfl (by simp [Go.Proofs.Tryz.f137]) Go.Proofs.Tryz.ntmps137 (by simp) (by kernel_rfl) (rs := [.tmp 2]) (tys := [4]) rfl rfl (by simp [finOK, A.ts, OWN, ownE, ownT]) (by simp [resOK, A.ts, OWN, ownE, ownT, DE]) ?_
  simp only [go_sem]
  repeat' (first
    | simp only [IJS]
    | (refine E.CALL.use (in_i _ _ _) ?_ <;> (try simp only [go_sem]))
    | (simp [side]; done)
    | fail)
theorem areSides_i (l : List Int) (hl : l.length ≤ 1048576) : Fn Go.Proofs.Tryz.prog 101 [.c (.s false 1 (l.map eInt))] [.c .d] [.c (.v (.bool (areSides l)))] := by
  refine E.Fn.ev (n := 11) mdG false mix Go.Proofs.Tryz.func101 rfl (by simp [Go.Proofs.Tryz.f101]) Go.Proofs.Tryz.ntmps101 (by simp) (by kernel_rfl) (rs := [.tmp 2]) (tys := [4]) rfl rfl (by simp [finOK, A.ts, OWN, ownE, ownT]) (by simp [resOK, A.ts, OWN, ownE, ownT, DE]) ?_
  simp only [go_sem]
  repeat' (first
    | simp only [IJS]
    | (refine E.CALL.use (anyF_I0 l (fun x => !side x) 137 hl (fun x _ => notSide_c x)) ?_ <;> (try simp only [go_sem]))
    | (refine E.GB.use (fun h => ?_) (fun h => ?_) <;> (simp only [go_sem, h]) <;> (try simp only [HFS] at h))
    | (rw [any_not side l, areSides, beq_iff_eq.2 h, Bool.true_and]; done)
    | (simp_all [areSides]; done)
    | fail)
theorem sameSide_i (l : List Int) (a : Int) (b : Int) (hl : l.length ≤ 1048576) : Fn Go.Proofs.Tryz.prog 44 [.c (.s false 1 (l.map eInt)), .c (.v (vi a)), .c (.v (vi b))] [.c .d, .c .d, .c .d] [.c (.v (.bool (sameSide l a b)))] := by
  refine E.Fn.ev (n := 28) mdG false mix Go.Proofs.Tryz.func44 rfl (by simp [Go.Proofs.Tryz.f44]) Go.Proofs.Tryz.ntmps44 (by simp) (by kernel_rfl) (rs := [.tmp 6]) (tys := [4]) rfl rfl (by simp [finOK, A.ts, OWN, ownE, ownT]) (by simp [resOK, A.ts, OWN, ownE, ownT, DE]) ?_
  simp only [go_sem]
  repeat' (first
    | simp only [IJS]
    | (refine E.CALL.use (areSides_i _ ?_) ?_ <;> (try simp only [go_sem]))
    | (refine E.CALL.use (in_i _ _ _) ?_ <;> (try simp only [go_sem]))
    | (refine E.GB.use (fun h => ?_) (fun h => ?_) <;> (simp only [go_sem, h]) <;> (try simp only [HFS] at h))
    | exact E.INDEP.mk2 (by kernel_rfl)
    | (refine E.IX_map ?_ (fun hx => ?_); rotate_left; simp only [go_sem])
    | apply And.intro
    | omega
    | (have q1 := areSides_len (l := l) (by assumption); have q2 := inR_of (x := a) (by assumption); have q3 := inR_of (x := b) (by assumption); omega; done)
    | (simp [sameSide, *]; done)
    | fail)
theorem isTail_i (f : Int) (l : List LEnt) (hl : l.length ≤ 1048576) : Fn Go.Proofs.Tryz.prog 82 [.c (.v (vi f)), .c (.s false 7 (l.map eLEnt))] [.c .d, .c .d] [.c (.v (.bool (isTail f l)))] := by
  refine E.Fn.ev (n := 28) mdG false mix Go.Proofs.Tryz.func82 rfl (by simp [Go.Proofs.Tryz.f82]) Go.Proofs.Tryz.ntmps82 (by simp) (by kernel_rfl) (rs := [.tmp 4]) (tys := [4]) rfl rfl (by simp [finOK, A.ts, OWN, ownE, ownT]) (by simp [resOK, A.ts, OWN, ownE, ownT, DE]) ?_
  simp only [go_sem]
  repeat' (first
    | simp only [IJS]
    | (refine E.CALL.use (isLog_i _ ?_) ?_ <;> (try simp only [go_sem]))
    | (refine E.CALL.use (in_i _ _ _) ?_ <;> (try simp only [go_sem]))
    | (refine E.GB.use (fun h => ?_) (fun h => ?_) <;> (simp only [go_sem, h]) <;> (try simp only [HFS] at h))
    | apply And.intro
    | omega
    | (simp_all [isTail]; done)
    | (have h9 : decide ((l.length : Int) ≤ 3) = false := (by simp; omega); simp [isTail, h9]; done)
    | fail)
theorem wrap_id {x : Int} (h1 : -9223372036854775808 ≤ x) (h2 : x ≤ 9223372036854775807) : IntKind.i64.wrap x = x := IntWalk.i64_in x (by omega)
theorem validSrv_i (s : Srv) (id : Int) (hB : SrvB s) : Fn Go.Proofs.Tryz.prog 18 [.a (eSrv false s), .c (.v (vi id))] [.a [.d, .d, .d, .d, .d, .d, .d, .d, .d, .d, .d, .d], .c .d] [.c (.v (.bool (validSrv s id)))] := by
  refine E.Fn.ev (n := 106) mdG true mix Go.Proofs.Tryz.func18 rfl (by simp [Go.Proofs.Tryz.f18]) Go.Proofs.Tryz.ntmps18 (by simp) (by kernel_rfl) (rs := [.tmp 4]) (tys := [4]) rfl rfl (by simp [finOK, A.ts, OWN, ownE, ownT]) (by simp [resOK, A.ts, OWN, ownE, ownT, DE]) ?_
  simp only [go_sem, binM, intBin]
  repeat' (first
    | simp only [IJS]
    | (refine E.CALL.use (eqConf_i_B s.conf noConf ?_ ?_) ?_ <;> (try simp only [go_sem, binM, intBin]))
    | (refine E.CALL.use (in_i _ _ _) ?_ <;> (try simp only [go_sem, binM, intBin]))
    | (refine E.CALL.use (isLog_i _ ?_) ?_ <;> (try simp only [go_sem, binM, intBin]))
    | (refine E.CALL.use (lastE_i _ ?_) ?_ <;> (try simp only [go_sem, binM, intBin]))
    | (refine E.CALL.use (role_i_B _ _ ?_) ?_ <;> (try simp only [go_sem, binM, intBin]))
    | (refine E.CALL.use (isTail_i _ _ ?_) ?_ <;> (try simp only [go_sem, binM, intBin]))
    | (refine E.GB.use (fun h => ?_) (fun h => ?_) <;> (simp only [go_sem, binM, intBin, h]) <;> (try simp only [HFS] at h))
    | exact E.INDEP.mk2 (by kernel_rfl)
    | apply And.intro
    | omega
    | (exact SrvB.conf (by assumption); done)
    | (exact SrvB.log (by assumption); done)
    | (exact SrvB.learned (by assumption); done)
    | (exact ConfB.no; done)
    | (simp_all [validSrv]; done)
    | (have q1 := inR_of (x := s.first) (by assumption); have q9 := isLog_len (l := s.log) (by assumption); simp only [wrap_id (x := s.first + s.log.length) (by omega) (by omega)] at *; have h9 : decide (s.first + s.log.length ≤ 16) = false := (by simp; omega); simp [validSrv, h9]; done)
    | (have q1 := inR_of (x := s.first) (by assumption); have q9 := isLog_len (l := s.log) (by assumption); simp only [wrap_id (x := s.first + s.log.length) (by omega) (by omega)] at *; simp_all [validSrv]; done)
    | (have h9 : decide (s.conf.epoch ≤ s.epoch) = false := (by simp; omega); simp [validSrv, h9, *]; done)
    | (have h9 : decide (lastE s.log ≤ s.conf.epoch) = false := (by simp; omega); simp [validSrv, h9, *]; done)
    | fail)
end
section
attribute [local go_sem] mdG_eq mdM toNat_pred setI List.length_set mdL_eq E.b_rem decE_self decN_self mkL_len mkL_at List.set_set E.rawCs_nil E.rawCs_s E.rawCs_v E.take_s markI_len markE_len
theorem markSs_l (l : List Srv) (k : Int) (hl : l.length ≤ 1048576) (hb : ∀ x ∈ l, SrvB x) (hk : 0 ≤ k) (hk2 : k ≤ 144115188075855872) : Fn Go.Proofs.Tryz.prog 52 [.c (.s true 12 (l.map (eSrv true))), .c (.v (vi k))] [.c (.s true 12 ((markSs l k).map (eSrv true))), .c .d] [.c (.v (vi (endSs l k)))] := by
  refine E.Fn.ev (n := 105) mdL false mix Go.Proofs.Tryz.func52 rfl (by simp [Go.Proofs.Tryz.f52]) Go.Proofs.Tryz.ntmps52 (by simp) (by kernel_rfl) (rs := [.tmp 4]) (tys := [3]) rfl rfl (by simp [finOK, A.ts, OWN, ownE, ownT]) (by simp [resOK, A.ts, OWN, ownE, ownT, DE]) ?_
  simp only [go_sem]
  repeat' (first
    | simp only [IJS]
    | (refine E.CALL.use (markI_l _ _ ?_ ?_ ?_) ?_ <;> (try simp only [go_sem]))
    | (refine E.CALL.use (markE_l _ _ ?_ ?_ ?_) ?_ <;> (try simp only [go_sem]))
    | (refine E.GB.use (fun h => ?_) (fun h => ?_) <;> (simp only [go_sem, h]) <;> (try simp only [HFS] at h))
    | exact E.RK.mk (by kernel_rfl)
    | (refine E.IX_map ?_ (fun hx => ?_); rotate_left; simp only [go_sem])
    | (refine E.IX_set ?_ ?_; rotate_left; simp only [go_sem])
    | (refine E.loopR (ι := Nat × Nat) 2 rfl (fun ⟨i, v⟩ => [(.s 5, .v (.c (.v (vi i)))), (.s 1, .v (.c (.v (vi (mkK (endS) l k i))))), (.k (0, 0), .e ⟨v, 12, (mkL (srvK) (endS) l k i).map (eSrv true)⟩)]) [0, 4, 104] [(0, 0)] [] (fun ⟨i, v⟩ => l.length - i) (fun ⟨i, v⟩ => i ≤ l.length ∧ 0 ≤ mkK (endS) l k i) mix (by kernel_rfl) (0, 0) ?_ ?_ (fun ⟨i, v⟩ ⟨hi, hk0⟩ => ?_); all_goals (try simp (maxSteps := 900000) only [go_sem]); all_goals (try dsimp only at hi hk0))
    | (refine E.NEXT.use [] (i + 1, v + 4) ?_ ?_ ?_; rotate_left 2; focus (simp (maxSteps := 900000) only [go_sem]; (repeat' (first | with_reducible rfl | exact E.RK.mk (by kernel_rfl) | apply And.intro | (push_cast; with_reducible rfl) | (refine E.int_c ?_; omega) | (simp only [go_sem]; done) | (rw [List.map_append]; rfl) | (simp; done) | (simp only [*]; done) | (rfl; done) | (rw [mkL, List.map_set] <;> rfl; done) | fail)); done))
    | (have hw : i < (List.map (eSrv true) (mkL (srvK) (endS) l k i)).length := (by simp only [List.length_map, mkL_len]; omega); simp only [List.getElem?_set_self hw, go_sem])
    | apply And.intro
    | omega
    | refine congrArg (List.map _) ?_
    | (have e : i = l.length := (by omega); subst e; rw [mkL_S]; done)
    | (have e : i = l.length := (by omega); subst e; rw [mkK_S]; done)
    | (exact hk; done)
    | (exact (hb _ (E.at_mem (by omega))).conf.r; done)
    | (exact (hb _ (E.at_mem (by omega))).conf.w; done)
    | (exact (hb _ (E.at_mem (by omega))).log; done)
    | (exact (hb _ (E.at_mem (by omega))).learned; done)
    | (rfl; done)
    | (have g1 := mkK_Sle hb k i (by omega); have g2 := mkK_Sge l k i; have g3 := hb (at' l i) (E.at_mem (by omega)); have g4 := g3.conf.r; have g5 := g3.conf.w; have g6 := g3.log; have g7 := g3.learned; have g8 := mkK_Sge l k (i + 1); omega; done)
    | fail)
end
end Go.Abs

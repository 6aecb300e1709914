/- Contracts of functions of the program, over the abstract machine, and facts for them. No condition. -/
import Derived.Test.YtlpbeejmefhpeaaGreatFacts
import Derived.Test.YtlpbeejmefhpeaaGreatPure26
import Derived.Test.YtlpbeejmefhpeaaGreatQ10
import Derived.Test.YtlpbeejmefhpeaaGreatQ3
import Derived.Test.YtlpbeejmefhpeaaGreatQ4
import Derived.Test.YtlpbeejmefhpeaaGreatQ7
import Derived.Test.YtlpbeejmefhpeaaGreatQ8
set_option linter.unusedVariables false
set_option linter.unusedSimpArgs false
set_option linter.unnecessarySimpa false
set_option linter.constructorNameAsVariable false
set_option maxHeartbeats 4000000
set_option maxRecDepth 100000
namespace Go.Abs
open Go
attribute [local go_sem ↓] E.argsA_h E.wq_ret E.wq_req E.wq_bad E.wq_call E.wq_get E.wq_getO E.wq_getOs E.wq_getPs E.wq_fresh E.wq_anyNil E.wq_getR0 E.wq_getR E.wq_ixM E.wq_n E.wq_g E.wq_gn E.ev_skip E.ev_region E.ev_draw E.ev_seq E.ev_cond E.ev_block E.ev_exit E.ev_ret E.sq_n E.sq_e E.sq_r E.bl_n E.bl_e E.bl_r E.lp_n E.lp_e E.lp_r E.fk_n E.fk_r E.q_move E.q_assign E.q_pick E.q_bin E.q_binw E.q_un E.q_alloc E.q_box E.q_build E.q_buildS E.q_makeS E.q_load E.q_store E.q_nilCheck E.q_slice E.q_fieldAddr E.q_field E.q_indexAddr E.q_extract E.q_makeFunc E.q_call E.q_callT E.q_len E.q_append E.q_min E.q_max E.q_convert E.q_cap E.q_clear appendIM appendZM E.b_add E.b_sub E.b_mul E.b_eql E.b_neq E.b_lss E.b_leq E.b_gtr E.b_geq E.GO_tmp E.GO_int E.GO_bool E.GO_str E.GO_nil E.GO_func E.GOs_nil E.GOs_cons E.GPs_nil E.GPs_cons E.RW_nil E.RW_cons E.dstAt_0 E.dstAt_s E.keepL_nil E.keepL_s E.keepL_k E.rmN_nil E.rmN_cons E.memN_nil E.memN_cons E.memK_nil E.memK_cons E.ovl_nil E.ovl_kk E.ovl_sk E.ovl_ks E.ovl_ss ofL_s ofL_sk ofL_ks ofL_k ofL_nil E.CO_tmp E.CO_bool
attribute [local go_sem] E.RM_nil E.RM_cons E.kd_k E.sbr_eq E.s3_nil E.s3_s E.s3_k E.vr_c E.vr_a E.vr_p E.vr_q E.vr_t E.vr_f E.vr_u E.cr_r E.cr_v E.cr_b E.cr_n E.cr_u E.crs_nil E.crs_cons E.renK_nil E.renK_cons keysVs V.keys C.keys keysCs E.RG_nil E.RG_cons E.GV_v E.GB_true E.GB_false E.GX_b E.GG_t E.GG_f E.GG_u E.GU_some E.IX_0 E.IX_s E.CX_s E.FR_none E.EN_e E.GVB_b E.b_boolM E.b_nilM E.b_strM E.b_aggM
attribute [local go_sem] List.cons_append List.nil_append List.append_nil List.length_cons List.length_nil List.length_map List.length_append callM E.argsH_nil E.argsH_cons E.argH_c E.argH_a E.argH_f E.cellsH_nil E.cellsH_cons E.cellH_v E.cellH_b E.cellH_n E.cellH_nt E.cellH_u E.cellH_rt E.cellH_rf capsA capA callable backs backT resVs resV resC tupV lenV intV boolV getE getO entryL entryKs A.ts entryV entryC entryCs entryCap List.map_cons List.map_nil E.cut_n E.cut_r E.cutM plainL A.lastOK T.lastOK Bool.false_or A.capOK szEs szE szT SZ whole toB toC List.drop_zero List.take_zero List.take_succ_cons List.drop_succ_cons resultsM resultM outM outM1 convs conv finAs finA finT finTs Int.toNat_natCast A.plain T.plain List.isEmpty_nil List.isEmpty_cons Bool.or_true Bool.true_or Bool.and_self List.getElem?_cons_zero List.getElem?_cons_succ Option.bind_some Option.bind_none Option.bind Nat.zero_add Nat.add_zero OWN BOR ONE SCAL DE ETA E.take_rest Int.toNat_zero E.take_map E.drop_map E.take_len1 List.take_length E.app_map Int.natCast_zero Int.sub_zero Int.toNat_sub partCells V.cells convsL appendM srcM E.scalEs_nil E.scalEs_cons E.oneEs_nil E.oneEs_cons List.all_cons List.all_nil T.one Bool.and_true gone ownEs ownE ownT borEs borE borT setRow splice List.set_cons_zero List.set_cons_succ optI getOpt sliceM ptrTo app_ofL T.isV Value.oneCell' fillC zeroC spliceC allV eqVs eqV minV maxV setAt setCell holed List.dropLast List.getLast?_singleton Option.getD_some Option.isSome_some Option.isSome_none Bool.and_false Bool.true_and Bool.false_and Option.map_some Option.map_none false_or true_or or_true rowAt cellAt E.constV_nil E.constV_int E.constV_bool E.constV_str E.setCell_set E.setCell_len setRow setAt List.dropLast_cons_cons List.dropLast_singleton List.getLast?_cons_cons
attribute [local go_sem_proc ↓] reduceIte
attribute [local go_sem_proc] Nat.reduceEqDiff reduceCtorEq Nat.reduceAdd Nat.reduceMul
attribute [local irreducible] E.argsH E.argH E.cellsH E.cellH E.GV E.GB E.GX E.GG E.GU E.IX E.CX E.RW E.FR E.EN E.CALL E.GO E.GOs E.GPs E.GVB E.KD E.RM E.RG E.CO E.WQ E.EV E.SQ E.BL E.LP E.FK E.S3 E.RK E.NEXT E.NQ E.INDEP
section
attribute [local go_sem] mdG_eq mdM toNat_pred setI List.length_set
theorem cloneE_c (l : List LEnt) (hl : l.length ≤ 1048576) : Fn Go.Proofs.Tryz.prog 144 [.c (.s false 7 (l.map eLEnt))] [.c .d] [.c (.s true 7 ((l).map eLEnt))] := by
  refine E.Fn.ev (n := 8) mdG false mix Go.Proofs.Tryz.func144 rfl (by simp [Go.Proofs.Tryz.f144]) Go.Proofs.Tryz.ntmps144 (by simp) (by kernel_rfl) (rs := [.tmp 2]) (tys := [74]) rfl rfl (by simp [finOK, A.ts, OWN, ownE, ownT]) (by simp [resOK, A.ts, OWN, ownE, ownT, DE]) ?_
  simp only [go_sem]
  repeat' (first
    | simp only [IJS]
    | (refine E.GB.use (fun h => ?_) (fun h => ?_) <;> (simp only [go_sem, h]) <;> (try simp only [HFS] at h))
    | (refine E.NQ.use (fun b hb => ?_); simp only [go_sem])
    | apply And.intro
    | omega
    | (exact (hb h).symm; done)
    | fail)
theorem cloneP_c (l : List Plc) (hl : l.length ≤ 1048576) : Fn Go.Proofs.Tryz.prog 119 [.c (.s false 3 (l.map ePlc))] [.c .d] [.c (.s true 3 ((l).map ePlc))] := by
  refine E.Fn.ev (n := 8) mdG false mix Go.Proofs.Tryz.func119 rfl (by simp [Go.Proofs.Tryz.f119]) Go.Proofs.Tryz.ntmps119 (by simp) (by kernel_rfl) (rs := [.tmp 2]) (tys := [43]) rfl rfl (by simp [finOK, A.ts, OWN, ownE, ownT]) (by simp [resOK, A.ts, OWN, ownE, ownT, DE]) ?_
  simp only [go_sem]
  repeat' (first
    | simp only [IJS]
    | (refine E.GB.use (fun h => ?_) (fun h => ?_) <;> (simp only [go_sem, h]) <;> (try simp only [HFS] at h))
    | (refine E.NQ.use (fun b hb => ?_); simp only [go_sem])
    | apply And.intro
    | omega
    | (exact (hb h).symm; done)
    | fail)
theorem cloneS_c (l : List Sess) (hl : l.length ≤ 1048576) : Fn Go.Proofs.Tryz.prog 160 [.c (.s false 4 (l.map eSess))] [.c .d] [.c (.s true 4 ((l).map eSess))] := by
  refine E.Fn.ev (n := 8) mdG false mix Go.Proofs.Tryz.func160 rfl (by simp [Go.Proofs.Tryz.f160]) Go.Proofs.Tryz.ntmps160 (by simp) (by kernel_rfl) (rs := [.tmp 2]) (tys := [95]) rfl rfl (by simp [finOK, A.ts, OWN, ownE, ownT]) (by simp [resOK, A.ts, OWN, ownE, ownT, DE]) ?_
  simp only [go_sem]
  repeat' (first
    | simp only [IJS]
    | (refine E.GB.use (fun h => ?_) (fun h => ?_) <;> (simp only [go_sem, h]) <;> (try simp only [HFS] at h))
    | (refine E.NQ.use (fun b hb => ?_); simp only [go_sem])
    | apply And.intro
    | omega
    | (exact (hb h).symm; done)
    | fail)
theorem copyC_i (c : Conf) (h1 : c.reps.length ≤ 1048576) (h2 : c.wits.length ≤ 1048576) : Fn Go.Proofs.Tryz.prog 153 [.a (eConf false c)] [.a [.d, .d, .d, .d]] [.a (eConf true (c))] := by
  refine E.Fn.ev (n := 16) mdG false mix Go.Proofs.Tryz.func153 rfl (by simp [Go.Proofs.Tryz.f153]) Go.Proofs.Tryz.ntmps153 (by simp) (by kernel_rfl) (rs := [.cell 2 73]) (tys := [73]) rfl rfl (by simp [finOK, A.ts, OWN, ownE, ownT]) (by simp [resOK, A.ts, OWN, ownE, ownT, DE]) ?_
  simp only [go_sem]
  repeat' (first
    | simp only [IJS]
    | exact E.INDEP.mk2 (by kernel_rfl)
    | apply And.intro
    | omega
    | fail)
theorem copyS_i (s : Srv) (h1 : s.conf.reps.length ≤ 1048576) (h2 : s.conf.wits.length ≤ 1048576) (h3 : s.log.length ≤ 1048576) (h4 : s.learned.length ≤ 1048576) : Fn Go.Proofs.Tryz.prog 116 [.a (eSrv false s)] [.a [.d, .d, .d, .d, .d, .d, .d, .d, .d, .d, .d, .d]] [.a (eSrv true (s))] := by
  refine E.Fn.ev (n := 16) mdG false mix Go.Proofs.Tryz.func116 rfl (by simp [Go.Proofs.Tryz.f116]) Go.Proofs.Tryz.ntmps116 (by simp) (by kernel_rfl) (rs := [.cell 2 76]) (tys := [76]) rfl rfl (by simp [finOK, A.ts, OWN, ownE, ownT]) (by simp [resOK, A.ts, OWN, ownE, ownT, DE]) ?_
  simp only [go_sem]
  repeat' (first
    | simp only [IJS]
    | (refine E.CALL.use (copyC_i _ ?_ ?_) ?_ <;> (try simp only [go_sem]))
    | (refine E.CALL.use (cloneE_c _ ?_) ?_ <;> (try simp only [go_sem]))
    | exact E.INDEP.mk2 (by kernel_rfl)
    | apply And.intro
    | omega
    | fail)
theorem copyM_i (m : MLog) (hml : m.confs.length ≤ 1048576) (hm : ∀ c ∈ m.confs, c.reps.length ≤ 1048576 ∧ c.wits.length ≤ 1048576) : Fn Go.Proofs.Tryz.prog 118 [.a (eMLog false m)] [.a [.d, .d]] [.a (eMLog true (m))] := by
  refine E.Fn.ev (n := 25) mdG false mix Go.Proofs.Tryz.func118 rfl (by simp [Go.Proofs.Tryz.f118]) Go.Proofs.Tryz.ntmps118 (by simp) (by kernel_rfl) (rs := [.cell 2 41]) (tys := [41]) rfl rfl (by simp [finOK, A.ts, OWN, ownE, ownT]) (by simp [resOK, A.ts, OWN, ownE, ownT, DE]) ?_
  simp only [go_sem]
  repeat' (first
    | simp only [IJS]
    | (refine E.CALL.use (copyC_i _ ?_ ?_) ?_ <;> (try simp only [go_sem]))
    | (refine E.GB.use (fun h => ?_) (fun h => ?_) <;> (simp only [go_sem, h]) <;> (try simp only [HFS] at h))
    | exact E.INDEP.mk2 (by kernel_rfl)
    | exact E.RK.mk (by kernel_rfl)
    | (refine E.IX_map ?_ (fun hx => ?_); rotate_left; simp only [go_sem])
    | (refine E.loopR (ι := Nat × Nat) 3 rfl (fun ⟨i, v⟩ => [(.s 12, .v (.c (.v (vi i)))), (.k (3, 0), .e ⟨v, 2, [[.s true 4 ((m.confs.take i).map (eConf true)), .v (vi m.act)]]⟩)]) [2, 3, 10, 11, 24] [(3, 0)] [] (fun ⟨i, v⟩ => m.confs.length - i) (fun ⟨i, v⟩ => i ≤ m.confs.length ∧ v = v) mix (by kernel_rfl) (0, 1) ?_ ?_ (fun ⟨i, v⟩ ⟨hi, hv⟩ => ?_); all_goals (try simp (maxSteps := 900000) only [go_sem]); all_goals (try dsimp only at hi hv))
    | (refine E.NEXT.use [] (i + 1, v + 1) ?_ ?_ ?_; rotate_left 2; focus (simp (maxSteps := 900000) only [go_sem]; (repeat' (first | with_reducible rfl | exact E.RK.mk (by kernel_rfl) | apply And.intro | (push_cast; with_reducible rfl) | (refine E.int_c ?_; omega) | (simp only [go_sem]; done) | (rw [List.map_append]; rfl) | (simp; done) | (simp only [*]; done) | (rw [E.take_at, List.map_append] <;> first | rfl | omega; done) | fail)); done))
    | apply And.intro
    | omega
    | (simp only [List.length_take, List.length_drop, List.length_append, List.length_set, List.length_cons, List.length_nil]; omega)
    | refine congrArg (List.map _) ?_
    | (exact (hm _ (E.at_mem (by omega))).1; done)
    | (exact (hm _ (E.at_mem (by omega))).2; done)
    | (have e : i = m.confs.length := (by omega); subst e; simp; done)
    | fail)
theorem copyU_i (c : Clu) (hs : ∀ s ∈ c.srvs, (s.conf.reps.length ≤ 1048576 ∧ s.conf.wits.length ≤ 1048576) ∧ s.log.length ≤ 1048576 ∧ s.learned.length ≤ 1048576) (hsl : c.srvs.length ≤ 1048576) (hsd : c.sides.length ≤ 1048576) (hml : c.mast.confs.length ≤ 1048576) (hm : ∀ x ∈ c.mast.confs, x.reps.length ≤ 1048576 ∧ x.wits.length ≤ 1048576) (hpl : c.plcs.length ≤ 1048576) : Fn Go.Proofs.Tryz.prog 61 [.a (eClu false c)] [.a [.d, .d, .d, .d, .d, .d, .d, .d, .d, .d]] [.a (eClu true (c))] := by
  refine E.Fn.ev (n := 36) mdG false mix Go.Proofs.Tryz.func61 rfl (by simp [Go.Proofs.Tryz.f61]) Go.Proofs.Tryz.ntmps61 (by simp) (by kernel_rfl) (rs := [.cell 2 45]) (tys := [45]) rfl rfl (by simp [finOK, A.ts, OWN, ownE, ownT]) (by simp [resOK, A.ts, OWN, ownE, ownT, DE]) ?_
  simp only [go_sem]
  repeat' (first
    | simp only [IJS]
    | (refine E.CALL.use (copyS_i _ ?_ ?_ ?_ ?_) ?_ <;> (try simp only [go_sem]))
    | (refine E.CALL.use (clone_c _ ?_) ?_ <;> (try simp only [go_sem]))
    | (refine E.CALL.use (copyM_i _ ?_ ?_) ?_ <;> (try simp only [go_sem]))
    | (refine E.CALL.use (cloneP_c _ ?_) ?_ <;> (try simp only [go_sem]))
    | (refine E.GB.use (fun h => ?_) (fun h => ?_) <;> (simp only [go_sem, h]) <;> (try simp only [HFS] at h))
    | exact E.INDEP.mk2 (by kernel_rfl)
    | exact E.RK.mk (by kernel_rfl)
    | (refine E.IX_map ?_ (fun hx => ?_); rotate_left; simp only [go_sem])
    | (refine E.loopR (ι := Nat × Nat) 4 rfl (fun ⟨i, v⟩ => [(.s 11, .v (.c (.v (vi i)))), (.k (3, 0), .e ⟨v, 10, [[.v (vi c.now), .s true 12 ((c.srvs.take i).map (eSrv true)), .s false 1 (c.sides.map eInt), .s false 4 (c.mast.confs.map (eConf false)), .v (vi c.mast.act), .v (vi c.mup), .v (vi c.lse.epoch), .v (vi c.lse.holder), .v (vi c.lse.til), .s false 3 (c.plcs.map ePlc)]]⟩)]) [1, 2, 3, 9, 10, 23, 24, 25, 26, 27, 28, 29, 30, 31, 32, 33, 34, 35] [(3, 0)] [] (fun ⟨i, v⟩ => c.srvs.length - i) (fun ⟨i, v⟩ => i ≤ c.srvs.length ∧ v = v) mix (by kernel_rfl) (0, 2) ?_ ?_ (fun ⟨i, v⟩ ⟨hi, hv⟩ => ?_); all_goals (try simp (maxSteps := 900000) only [go_sem]); all_goals (try dsimp only at hi hv))
    | (refine E.NEXT.use [] (i + 1, v + 1) ?_ ?_ ?_; rotate_left 2; focus (simp (maxSteps := 900000) only [go_sem]; (repeat' (first | with_reducible rfl | exact E.RK.mk (by kernel_rfl) | apply And.intro | (push_cast; with_reducible rfl) | (refine E.int_c ?_; omega) | (simp only [go_sem]; done) | (rw [List.map_append]; rfl) | (simp; done) | (simp only [*]; done) | (rw [E.take_at, List.map_append] <;> first | rfl | omega; done) | fail)); done))
    | apply And.intro
    | omega
    | (simp only [List.length_take, List.length_drop, List.length_append, List.length_set, List.length_cons, List.length_nil]; omega)
    | refine congrArg (List.map _) ?_
    | (exact (hs _ (E.at_mem (by omega))).1.1; done)
    | (exact (hs _ (E.at_mem (by omega))).1.2; done)
    | (exact (hs _ (E.at_mem (by omega))).2.1; done)
    | (exact (hs _ (E.at_mem (by omega))).2.2; done)
    | (rw [List.take_of_length_le (by omega)]; done)
    | fail)
theorem validConf_i (c : Conf) (h1 : c.reps.length ≤ 1048576) (h2 : c.wits.length ≤ 1048576) : Fn Go.Proofs.Tryz.prog 165 [.a (eConf false c)] [.a [.d, .d, .d, .d]] [.c (.v (.bool (validConf c)))] := by
  refine E.Fn.ev (n := 32) mdG false mix Go.Proofs.Tryz.func165 rfl (by simp [Go.Proofs.Tryz.f165]) Go.Proofs.Tryz.ntmps165 (by simp) (by kernel_rfl) (rs := [.tmp 2]) (tys := [4]) rfl rfl (by simp [finOK, A.ts, OWN, ownE, ownT]) (by simp [resOK, A.ts, OWN, ownE, ownT, DE]) ?_
  simp only [go_sem]
  repeat' (first
    | simp only [IJS]
    | (refine E.CALL.use (in_i _ _ _) ?_ <;> (try simp only [go_sem]))
    | (refine E.CALL.use (areSrv_i _ ?_) ?_ <;> (try simp only [go_sem]))
    | (refine E.CALL.use (has_i _ _ ?_) ?_ <;> (try simp only [go_sem]))
    | (refine E.CALL.use (common_i _ _ ?_ ?_) ?_ <;> (try simp only [go_sem]))
    | (refine E.GB.use (fun h => ?_) (fun h => ?_) <;> (simp only [go_sem, h]) <;> (try simp only [HFS] at h))
    | apply And.intro
    | omega
    | (have := areServers_len (l := c.reps) (by assumption); omega; done)
    | (simp_all [validConf]; done)
    | fail)
theorem role_i (c : Conf) (id : Int) (h1 : c.reps.length ≤ 1048576) (h2 : c.wits.length ≤ 1048576) : Fn Go.Proofs.Tryz.prog 142 [.a (eConf false c), .c (.v (vi id))] [.a [.d, .d, .d, .d], .c .d] [.c (.v (vi (roleOf c id)))] := by
  refine E.Fn.ev (n := 24) mdG false mix Go.Proofs.Tryz.func142 rfl (by simp [Go.Proofs.Tryz.f142]) Go.Proofs.Tryz.ntmps142 (by simp) (by kernel_rfl) (rs := [.tmp 4]) (tys := [3]) rfl rfl (by simp [finOK, A.ts, OWN, ownE, ownT]) (by simp [resOK, A.ts, OWN, ownE, ownT, DE]) ?_
  simp only [go_sem]
  repeat' (first
    | simp only [IJS]
    | (refine E.CALL.use (validConf_i _ ?_ ?_) ?_ <;> (try simp only [go_sem]))
    | (refine E.CALL.use (has_i _ _ ?_) ?_ <;> (try simp only [go_sem]))
    | (refine E.GB.use (fun h => ?_) (fun h => ?_) <;> (simp only [go_sem, h]) <;> (try simp only [HFS] at h))
    | apply And.intro
    | omega
    | (simp_all [roleOf]; done)
    | fail)
theorem isML_i (m : MLog) (hml : m.confs.length ≤ 1048576) (hm : ∀ c ∈ m.confs, c.reps.length ≤ 1048576 ∧ c.wits.length ≤ 1048576) : Fn Go.Proofs.Tryz.prog 155 [.a (eMLog false m)] [.a [.d, .d]] [.c (.v (.bool (isML m)))] := by
  refine E.Fn.ev (n := 30) mdG false mix Go.Proofs.Tryz.func155 rfl (by simp [Go.Proofs.Tryz.f155]) Go.Proofs.Tryz.ntmps155 (by simp) (by kernel_rfl) (rs := [.tmp 2]) (tys := [4]) rfl rfl (by simp [finOK, A.ts, OWN, ownE, ownT]) (by simp [resOK, A.ts, OWN, ownE, ownT, DE]) ?_
  simp only [go_sem]
  repeat' (first
    | simp only [IJS]
    | (refine E.CALL.use (validConf_i _ ?_ ?_) ?_ <;> (try simp only [go_sem]))
    | (refine E.CALL.use (in_i _ _ _) ?_ <;> (try simp only [go_sem]))
    | (refine E.GB.use (fun h => ?_) (fun h => ?_) <;> (simp only [go_sem, h]) <;> (try simp only [HFS] at h))
    | exact E.RK.mk (by kernel_rfl)
    | (refine E.IX_map ?_ (fun hx => ?_); rotate_left; simp only [go_sem])
    | (refine E.loopR (ι := Nat) 2 rfl (fun i => [(.s 8, .v (.c (.v (vi i))))]) [1, 6, 7, 24, 25, 26, 27, 28, 29] [] [] (fun i => (m.confs).length - i) (fun i => i ≤ (m.confs).length ∧ (confsGo i (m.confs.drop i) && inR m.act 0 m.confs.length) = isML m) mix (by kernel_rfl) 0 ?_ ?_ (fun i ⟨hi, hR⟩ => ?_); all_goals (try simp (maxSteps := 900000) only [go_sem]); all_goals (try dsimp only at hi hR))
    | (refine E.NEXT.use [] (i + 1) ?_ ?_ ?_; rotate_left 2; focus (simp (maxSteps := 900000) only [go_sem]; (repeat' (first | with_reducible rfl | exact E.RK.mk (by kernel_rfl) | apply And.intro | (push_cast; with_reducible rfl) | (refine E.int_c ?_; omega) | (simp only [go_sem]; done) | (rw [List.map_append]; rfl) | (simp; done) | (simp only [*]; done) | fail)); done))
    | apply And.intro
    | omega
    | (exact (hm _ (E.at_mem (by omega))).1; done)
    | (exact (hm _ (E.at_mem (by omega))).2; done)
    | (rw [drop_at (l := m.confs) (i := i) (by omega)] at hR; rw [← hR]; simp [confsGo, *]; done)
    | (rw [E.drop_end (l := m.confs) (i := i) (by omega)] at hR; rw [← hR]; simp [confsGo]; done)
    | (rfl; done)
    | fail)
theorem isLease_i (l : Lse) : Fn Go.Proofs.Tryz.prog 143 [.a (eLse l)] [.a [.d, .d, .d]] [.c (.v (.bool (isLease l)))] := by
  refine E.Fn.ev (n := 21) mdG false mix Go.Proofs.Tryz.func143 rfl (by simp [Go.Proofs.Tryz.f143]) Go.Proofs.Tryz.ntmps143 (by simp) (by kernel_rfl) (rs := [.tmp 2]) (tys := [4]) rfl rfl (by simp [finOK, A.ts, OWN, ownE, ownT]) (by simp [resOK, A.ts, OWN, ownE, ownT, DE]) ?_
  simp only [go_sem]
  repeat' (first
    | simp only [IJS]
    | (refine E.CALL.use (in_i _ _ _) ?_ <;> (try simp only [go_sem]))
    | (refine E.GB.use (fun h => ?_) (fun h => ?_) <;> (simp only [go_sem, h]) <;> (try simp only [HFS] at h))
    | apply And.intro
    | omega
    | (have q := isLease_no h; subst q; simp [isLease]; done)
    | (have := isLease_ne (by assumption); simp_all [isLease]; done)
    | fail)
theorem any_not {α : Type} (p : α → Bool) : ∀ l : List α, (!(l.any fun x => !p x)) = l.all p
  | [] => rfl
  | x :: l => by simp [← any_not p l]
theorem notPlc_c (p : Plc) : Fn Go.Proofs.Tryz.prog 178 [.a (ePlc p)] [.a [.d, .d, .d]] [.c (.v (.bool (!okPlc p)))] := by
  refine E.Fn.ev (n := 19) mdG false mix Go.Proofs.Tryz.func178 rfl (by simp [Go.Proofs.Tryz.f178]) Go.Proofs.Tryz.ntmps178 (by simp) (by kernel_rfl) (rs := [.tmp 2]) (tys := [4]) rfl rfl (by simp [finOK, A.ts, OWN, ownE, ownT]) (by simp [resOK, A.ts, OWN, ownE, ownT, DE]) ?_
  simp only [go_sem]
  repeat' (first
    | simp only [IJS]
    | (refine E.CALL.use (in_i _ _ _) ?_ <;> (try simp only [go_sem]))
    | (refine E.GB.use (fun h => ?_) (fun h => ?_) <;> (simp only [go_sem, h]) <;> (try simp only [HFS] at h))
    | apply And.intro
    | omega
    | (simp [okPlc, *]; done)
    | fail)
theorem arePlc_i (l : List Plc) (hl : l.length ≤ 1048576) : Fn Go.Proofs.Tryz.prog 156 [.c (.s false 3 (l.map ePlc))] [.c .d] [.c (.v (.bool (arePlaces l)))] := by
  refine E.Fn.ev (n := 11) mdG false mix Go.Proofs.Tryz.func156 rfl (by simp [Go.Proofs.Tryz.f156]) Go.Proofs.Tryz.ntmps156 (by simp) (by kernel_rfl) (rs := [.tmp 2]) (tys := [4]) rfl rfl (by simp [finOK, A.ts, OWN, ownE, ownT]) (by simp [resOK, A.ts, OWN, ownE, ownT, DE]) ?_
  simp only [go_sem]
  repeat' (first
    | simp only [IJS]
    | (refine E.CALL.use (anyF_P0 l (fun p => !okPlc p) 178 hl (fun x _ => notPlc_c x)) ?_ <;> (try simp only [go_sem]))
    | (refine E.GB.use (fun h => ?_) (fun h => ?_) <;> (simp only [go_sem, h]) <;> (try simp only [HFS] at h))
    | (rw [any_not okPlc l, arePlaces, beq_iff_eq.2 h, Bool.true_and]; rfl; done)
    | (simp_all [arePlaces]; done)
    | fail)
theorem confAt_i (m : MLog) (e : Int) (hml : m.confs.length ≤ 1048576) (hm : ∀ c ∈ m.confs, c.reps.length ≤ 1048576 ∧ c.wits.length ≤ 1048576) : Fn Go.Proofs.Tryz.prog 159 [.a (eMLog false m), .c (.v (vi e))] [.a [.d, .d], .c .d] [.a (eConf true ((confAt m e).1)), .c (.v (.bool ((confAt m e).2)))] := by
  refine E.Fn.ev (n := 25) mdG false mix Go.Proofs.Tryz.func159 rfl (by simp [Go.Proofs.Tryz.f159]) Go.Proofs.Tryz.ntmps159 (by simp) (by kernel_rfl) (rs := [.cell 4 73, .tmp 5]) (tys := [73, 4]) rfl rfl (by simp [finOK, A.ts, OWN, ownE, ownT]) (by simp [resOK, A.ts, OWN, ownE, ownT, DE]) ?_
  simp only [go_sem]
  repeat' (first
    | simp only [IJS]
    | (refine E.CALL.use (isML_i _ ?_ ?_) ?_ <;> (try simp only [go_sem]))
    | (refine E.CALL.use (in_i _ _ _) ?_ <;> (try simp only [go_sem]))
    | (refine E.CALL.use (copyC_i _ ?_ ?_) ?_ <;> (try simp only [go_sem]))
    | (refine E.GB.use (fun h => ?_) (fun h => ?_) <;> (simp only [go_sem, h]) <;> (try simp only [HFS] at h))
    | (refine E.IX_map ?_ (fun hx => ?_); rotate_left; simp only [go_sem])
    | apply And.intro
    | omega
    | refine congrArg (List.map _) ?_
    | (have q := inR_of (x := e) (by assumption); omega; done)
    | (have q := inR_of (x := e) (by assumption); exact (hm _ (E.at_mem (by omega))).1; done)
    | (have q := inR_of (x := e) (by assumption); exact (hm _ (E.at_mem (by omega))).2; done)
    | (simp [confAt, noConf, *]; done)
    | fail)
end
section
attribute [local go_sem] mdG_eq mdM toNat_pred setI List.length_set eLI_eq eLE_eq
theorem growI_c  (n : Int) (h0 : 0 ≤ n) (h1 : n ≤ 1048576) : Fn Go.Proofs.Tryz.prog 196 [.c (.v (.slice none 0 0)), .c (.v (vi n))] [.c .d, .c .d] [.c (.s true 1 ((([] : List Int)).map eInt))] := by
  refine E.Fn.evCN (n := 27) mdG false mix Go.Proofs.Tryz.func196 rfl (by simp [Go.Proofs.Tryz.f196]) Go.Proofs.Tryz.ntmps196 (by simp) (by kernel_rfl) (t := 4) (ty := 23) (sz := 1) (r := (([] : List Int)).map eInt) (al := [.c (.v (vi n))]) (fin := [.c .d]) rfl rfl ki23 rfl (by simp [OWN, ownEs]) ?_
  simp only [go_sem]
  repeat' (first
    | simp only [IJS]
    | (refine E.GB.use (fun h => ?_) (fun h => ?_) <;> (try (exfalso; simp only [HFS] at h; omega)) <;> (simp only [go_sem, h]) <;> (try simp only [HFS] at h))
    | apply And.intro
    | omega
    | fail)
theorem concatI_c  (ls : List (List Int)) (l0 : List Int) (he : ls.flatten = l0) (hls : ls.length ≤ 1048576) (hl : ls.flatten.length ≤ 1048576) : Fn Go.Proofs.Tryz.prog 185 [.c (.s false 1 (ls.map eLI))] [.c .d] [.c (.s true 1 ((l0).map eInt))] := by
  refine E.Fn.ev (n := 36) mdG false mix Go.Proofs.Tryz.func185 rfl (by simp [Go.Proofs.Tryz.f185]) Go.Proofs.Tryz.ntmps185 (by simp) (by kernel_rfl) (rs := [.tmp 2]) (tys := [23]) rfl rfl (by simp [finOK, A.ts, OWN, ownE, ownT]) (by simp [resOK, A.ts, OWN, ownE, ownT, DE]) ?_
  simp only [go_sem]
  repeat' (first
    | simp only [IJS]
    | (refine E.CALL.use (growI_c _ ?_ ?_) ?_ <;> (try simp only [go_sem]))
    | (refine E.GB.use (fun h => ?_) (fun h => ?_) <;> (try (exfalso; simp only [HFS] at h; omega)) <;> (simp only [go_sem, h]) <;> (try simp only [HFS] at h))
    | exact E.RK.mk (by kernel_rfl)
    | (refine E.IX_map ?_ (fun hx => ?_); rotate_left; simp only [go_sem])
    | (refine E.loopR (ι := Nat) 3 rfl (fun i => [(.s 11, .v (.c (.v (vi i)))), (.s 3, .v (.c (.v (vi (ls.take i).flatten.length))))]) [0, 2, 6, 8, 9, 10, 23, 24, 25, 26, 27, 28, 29, 30, 31, 32, 33, 34, 35] [] [] (fun i => ls.length - i) (fun i => i ≤ ls.length ∧ 0 = 0) mix (by kernel_rfl) 0 ?_ ?_ (fun i ⟨hi, hz⟩ => ?_); all_goals (try simp (maxSteps := 900000) only [go_sem]); all_goals (try dsimp only at hi hz))
    | (refine E.NEXT.use [] (i + 1) ?_ ?_ ?_; rotate_left 2; focus (simp (maxSteps := 900000) only [go_sem]; (repeat' (first | with_reducible rfl | exact E.RK.mk (by kernel_rfl) | apply And.intro | (push_cast; with_reducible rfl) | (refine E.int_c ?_; omega) | (simp only [go_sem]; done) | (rw [List.map_append]; rfl) | (simp; done) | (simp only [*]; done) | (refine E.int_c ?_; rw [flat_take (by omega)]; simp; done) | fail)); done))
    | (refine E.loopR (ι := Nat × List Int) 11 rfl (fun ⟨i, out⟩ => [(.s 27, .v (.c (.v (vi i)))), (.s 6, .v (.c (.r (24, 0) 0 [] 0 (out).length))), (.k (24, 0), .e ⟨0, 1, (out).map eInt⟩)]) [2, 25, 26, 35] [(24, 0)] [] (fun ⟨i, out⟩ => ls.length - i) (fun ⟨i, out⟩ => i ≤ ls.length ∧ out = (ls.take i).flatten) mix (by kernel_rfl) (0, []) ?_ ?_ (fun ⟨i, out⟩ ⟨hi, ho⟩ => ?_); all_goals (try simp (maxSteps := 900000) only [go_sem]); all_goals (try dsimp only at hi ho))
    | (refine E.NEXT.use [((24, 0), (33, 0))] (i + 1, out ++ at' ls i) ?_ ?_ ?_; rotate_left 2; focus (simp (maxSteps := 900000) only [go_sem]; (repeat' (first | with_reducible rfl | exact E.RK.mk (by kernel_rfl) | apply And.intro | (push_cast; with_reducible rfl) | (refine E.int_c ?_; omega) | (simp only [go_sem]; done) | (rw [List.map_append]; rfl) | (simp; done) | (simp only [*]; done) | (refine E.int_c ?_; rw [flat_take (by omega)]; simp; done) | fail)); done))
    | apply And.intro
    | omega
    | refine congrArg (List.map _) ?_
    | (subst ho; rw [List.take_of_length_le (by omega), he]; done)
    | (have := flat_at (ls := ls) (i := i) (by omega); omega; done)
    | (have := flat_at (ls := ls) (i := i) (by omega); rw [← ho] at this; omega; done)
    | (rw [List.take_of_length_le (by omega)]; omega; done)
    | (subst ho; (try dsimp only); rw [flat_take (by omega)]; done)
    | (simp; done)
    | fail)
end
section
attribute [local go_sem] mdG_eq mdM toNat_pred setI List.length_set eLI_eq eLE_eq
theorem unite_i (a : List Int) (b : List Int) (hab : a.length + b.length ≤ 12) : Fn Go.Proofs.Tryz.prog 166 [.c (.s false 1 (a.map eInt)), .c (.s false 1 (b.map eInt))] [.c .d, .c .d] [.c (.s true 1 ((unite a b).map eInt))] := by
  refine E.Fn.ev (n := 10) mdG false mix Go.Proofs.Tryz.func166 rfl (by simp [Go.Proofs.Tryz.f166]) Go.Proofs.Tryz.ntmps166 (by simp) (by kernel_rfl) (rs := [.tmp 4]) (tys := [23]) rfl rfl (by simp [finOK, A.ts, OWN, ownE, ownT]) (by simp [resOK, A.ts, OWN, ownE, ownT, DE]) ?_
  simp only [go_sem]
  repeat' (first
    | simp only [IJS]
    | (refine E.CALL.use (concatI_c [a, b] (a ++ b) (by simp) ?_ ?_) ?_ <;> (try simp only [go_sem]))
    | (refine E.CALL.use (asc_c _ ?_) ?_ <;> (try simp only [go_sem]))
    | apply And.intro
    | omega
    | refine congrArg (List.map _) ?_
    | (simp; omega; done)
    | (rw [unite_eq]; done)
    | fail)
theorem members_i (c : Conf) (h1 : c.reps.length ≤ 1048576) (h2 : c.wits.length ≤ 1048576) : Fn Go.Proofs.Tryz.prog 129 [.a (eConf false c)] [.a [.d, .d, .d, .d]] [.c (.s true 1 ((membersOf c).map eInt))] := by
  refine E.Fn.ev (n := 12) mdG false mix Go.Proofs.Tryz.func129 rfl (by simp [Go.Proofs.Tryz.f129]) Go.Proofs.Tryz.ntmps129 (by simp) (by kernel_rfl) (rs := [.tmp 2]) (tys := [23]) rfl rfl (by simp [finOK, A.ts, OWN, ownE, ownT]) (by simp [resOK, A.ts, OWN, ownE, ownT, DE]) ?_
  simp only [go_sem]
  repeat' (first
    | simp only [IJS]
    | (refine E.CALL.use (validConf_i _ ?_ ?_) ?_ <;> (try simp only [go_sem]))
    | (refine E.CALL.use (unite_i _ _ ?_) ?_ <;> (try simp only [go_sem]))
    | (refine E.GB.use (fun h => ?_) (fun h => ?_) <;> (simp only [go_sem, h]) <;> (try simp only [HFS] at h))
    | apply And.intro
    | omega
    | refine congrArg (List.map _) ?_
    | (simp [membersOf, *]; done)
    | (have q := validConf_of (by assumption); have := areServers_len q.2.2.1; have := areServers_len q.2.2.2.1; omega; done)
    | fail)
end
section
attribute [local go_sem] mdG_eq mdM toNat_pred setI List.length_set eLI_eq eLE_eq
theorem eqConf_i_B (a : Conf) (b : Conf) (hA : ConfB a) (hB : ConfB b) : Fn Go.Proofs.Tryz.prog 158 [.a (eConf false a), .a (eConf false b)] [.a [.d, .d, .d, .d], .a [.d, .d, .d, .d]] [.c (.v (.bool (decide (a = b))))] := eqConf_i a b hA.r hA.w hB.r hB.w
theorem eqConf_s_B (a : Conf) (b : Conf) (hA : ConfB a) (hB : ConfB b) : Fn Go.Proofs.Tryz.prog 109 [.a (eConf false a), .a (eConf false b)] [.a [.d, .d, .d, .d], .a [.d, .d, .d, .d]] [.c (.v (.bool (decide (a = b))))] := eqConf_s a b hA.r hA.w hB.r hB.w
theorem role_s_B (c : Conf) (id : Int) (hB : ConfB c) : Fn Go.Proofs.Tryz.prog 51 [.a (eConf false c), .c (.v (vi id))] [.a [.d, .d, .d, .d], .c .d] [.c (.v (vi (roleOf c id)))] := role_s c id hB.r hB.w
theorem members_s_B (c : Conf) (hB : ConfB c) : Fn Go.Proofs.Tryz.prog 115 [.a (eConf false c)] [.a [.d, .d, .d, .d]] [.c (.s true 1 ((membersOf c).map eInt))] := members_s c hB.r hB.w
theorem copyU_s_B (c : Clu) (hB : CluB c) : Fn Go.Proofs.Tryz.prog 53 [.a (eClu false c)] [.a [.d, .d, .d, .d, .d, .d, .d, .d, .d, .d]] [.a (eClu true (c))] := copyU_s c hB.hs hB.sl hB.sd hB.m.len hB.m.hm hB.pl
theorem primNow_s_B (s : Srv) (id : Int) (hB : SrvB s) : Fn Go.Proofs.Tryz.prog 34 [.a (eSrv false s), .c (.v (vi id))] [.a [.d, .d, .d, .d, .d, .d, .d, .d, .d, .d, .d, .d], .c .d] [.c (.v (.bool (primNow s id)))] := primNow_s s id hB.conf.r hB.conf.w hB.log hB.learned
theorem validClu_s_B (c : Clu) (hB : CluB c) : Fn Go.Proofs.Tryz.prog 54 [.a (eClu false c)] [.a [.d, .d, .d, .d, .d, .d, .d, .d, .d, .d]] [.c (.v (.bool (validClu c)))] := validClu_s c hB.hs hB.sl hB.sd hB.m.len hB.m.hm hB.pl
theorem copyS_i_B (s : Srv) (hB : SrvB s) : Fn Go.Proofs.Tryz.prog 116 [.a (eSrv false s)] [.a [.d, .d, .d, .d, .d, .d, .d, .d, .d, .d, .d, .d]] [.a (eSrv true (s))] := copyS_i s hB.conf.r hB.conf.w hB.log hB.learned
theorem copyU_i_B (c : Clu) (hB : CluB c) : Fn Go.Proofs.Tryz.prog 61 [.a (eClu false c)] [.a [.d, .d, .d, .d, .d, .d, .d, .d, .d, .d]] [.a (eClu true (c))] := copyU_i c hB.hs hB.sl hB.sd hB.m.len hB.m.hm hB.pl
theorem role_i_B (c : Conf) (id : Int) (hB : ConfB c) : Fn Go.Proofs.Tryz.prog 142 [.a (eConf false c), .c (.v (vi id))] [.a [.d, .d, .d, .d], .c .d] [.c (.v (vi (roleOf c id)))] := role_i c id hB.r hB.w
theorem isML_i_B (m : MLog) (hM : MLB m) : Fn Go.Proofs.Tryz.prog 155 [.a (eMLog false m)] [.a [.d, .d]] [.c (.v (.bool (isML m)))] := isML_i m hM.len hM.hm
theorem confAt_i_B (m : MLog) (e : Int) (hM : MLB m) : Fn Go.Proofs.Tryz.prog 159 [.a (eMLog false m), .c (.v (vi e))] [.a [.d, .d], .c .d] [.a (eConf true ((confAt m e).1)), .c (.v (.bool ((confAt m e).2)))] := confAt_i m e hM.len hM.hm
theorem members_i_B (c : Conf) (hB : ConfB c) : Fn Go.Proofs.Tryz.prog 129 [.a (eConf false c)] [.a [.d, .d, .d, .d]] [.c (.s true 1 ((membersOf c).map eInt))] := members_i c hB.r hB.w
end
end Go.Abs

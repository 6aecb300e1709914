/- Contracts of functions of the program, over the abstract machine, and facts for them. No condition. -/
import Derived.Test.YtlpbeejmefhpeaaGreatFacts
import Derived.Test.YtlpbeejmefhpeaaGreatPure20
import Derived.Test.YtlpbeejmefhpeaaGreatQ10
import Derived.Test.YtlpbeejmefhpeaaGreatQ3
import Derived.Test.YtlpbeejmefhpeaaGreatQ4
import Derived.Test.YtlpbeejmefhpeaaGreatQ43
import Derived.Test.YtlpbeejmefhpeaaGreatQ8
set_option linter.unusedVariables false
set_option linter.unusedSimpArgs false
set_option linter.unnecessarySimpa false
set_option linter.constructorNameAsVariable false
set_option maxHeartbeats 4000000
set_option maxRecDepth 100000
namespace Go.Abs
open Go
attribute [local go_sem ↓] E.argsA_h E.wq_ret E.wq_req E.wq_bad E.wq_call E.wq_get E.wq_getO E.wq_getOs E.wq_getPs E.wq_fresh E.wq_anyNil E.wq_getR0 E.wq_getR E.wq_ixM E.wq_n E.wq_g E.wq_gn E.ev_skip E.ev_region E.ev_draw E.ev_seq E.ev_cond E.ev_block E.ev_exit E.ev_ret E.sq_n E.sq_e E.sq_r E.bl_n E.bl_e E.bl_r E.lp_n E.lp_e E.lp_r E.fk_n E.fk_r E.q_move E.q_assign E.q_pick E.q_bin E.q_binw E.q_un E.q_alloc E.q_box E.q_build E.q_buildS E.q_makeS E.q_load E.q_store E.q_nilCheck E.q_slice E.q_fieldAddr E.q_field E.q_indexAddr E.q_extract E.q_makeFunc E.q_call E.q_callT E.q_len E.q_append E.q_min E.q_max E.q_convert E.q_cap E.q_clear appendIM appendZM E.b_add E.b_sub E.b_mul E.b_eql E.b_neq E.b_lss E.b_leq E.b_gtr E.b_geq E.GO_tmp E.GO_int E.GO_bool E.GO_str E.GO_nil E.GO_func E.GOs_nil E.GOs_cons E.GPs_nil E.GPs_cons E.RW_nil E.RW_cons E.dstAt_0 E.dstAt_s E.keepL_nil E.keepL_s E.keepL_k E.rmN_nil E.rmN_cons E.memN_nil E.memN_cons E.memK_nil E.memK_cons E.ovl_nil E.ovl_kk E.ovl_sk E.ovl_ks E.ovl_ss ofL_s ofL_sk ofL_ks ofL_k ofL_nil E.CO_tmp E.CO_bool
attribute [local go_sem] E.RM_nil E.RM_cons E.kd_k E.sbr_eq E.s3_nil E.s3_s E.s3_k E.vr_c E.vr_a E.vr_p E.vr_q E.vr_t E.vr_f E.vr_u E.cr_r E.cr_v E.cr_b E.cr_n E.cr_u E.crs_nil E.crs_cons E.renK_nil E.renK_cons keysVs V.keys C.keys keysCs E.RG_nil E.RG_cons E.GV_v E.GB_true E.GB_false E.GX_b E.GG_t E.GG_f E.GG_u E.GU_some E.IX_0 E.IX_s E.CX_s E.FR_none E.EN_e E.GVB_b E.b_boolM E.b_nilM E.b_strM E.b_aggM
attribute [local go_sem] List.cons_append List.nil_append List.append_nil List.length_cons List.length_nil List.length_map List.length_append callM E.argsH_nil E.argsH_cons E.argH_c E.argH_a E.argH_f E.cellsH_nil E.cellsH_cons E.cellH_v E.cellH_b E.cellH_n E.cellH_nt E.cellH_u E.cellH_rt E.cellH_rf capsA capA callable backs backT resVs resV resC tupV lenV intV boolV getE getO entryL entryKs A.ts entryV entryC entryCs entryCap List.map_cons List.map_nil E.cut_n E.cut_r E.cutM plainL A.lastOK T.lastOK Bool.false_or A.capOK szEs szE szT SZ whole toB toC List.drop_zero List.take_zero List.take_succ_cons List.drop_succ_cons resultsM resultM outM outM1 convs conv finAs finA finT finTs Int.toNat_natCast A.plain T.plain List.isEmpty_nil List.isEmpty_cons Bool.or_true Bool.true_or Bool.and_self List.getElem?_cons_zero List.getElem?_cons_succ Option.bind_some Option.bind_none Option.bind Nat.zero_add Nat.add_zero OWN BOR ONE SCAL DE ETA E.take_rest Int.toNat_zero E.take_map E.drop_map E.take_len1 List.take_length E.app_map Int.natCast_zero Int.sub_zero Int.toNat_sub partCells V.cells convsL appendM srcM E.scalEs_nil E.scalEs_cons E.oneEs_nil E.oneEs_cons List.all_cons List.all_nil T.one Bool.and_true gone ownEs ownE ownT borEs borE borT setRow splice List.set_cons_zero List.set_cons_succ optI getOpt sliceM ptrTo app_ofL T.isV Value.oneCell' fillC zeroC spliceC allV eqVs eqV minV maxV setAt setCell holed List.dropLast List.getLast?_singleton Option.getD_some Option.isSome_some Option.isSome_none Bool.and_false Bool.true_and Bool.false_and Option.map_some Option.map_none false_or true_or or_true rowAt cellAt E.constV_nil E.constV_int E.constV_bool E.constV_str E.setCell_set E.setCell_len setRow setAt List.dropLast_cons_cons List.dropLast_singleton List.getLast?_cons_cons
attribute [local go_sem_proc ↓] reduceIte
attribute [local go_sem_proc] Nat.reduceEqDiff reduceCtorEq Nat.reduceAdd Nat.reduceMul
attribute [local irreducible] E.argsH E.argH E.cellsH E.cellH E.GV E.GB E.GX E.GG E.GU E.IX E.CX E.RW E.FR E.EN E.CALL E.GO E.GOs E.GPs E.GVB E.KD E.RM E.RG E.CO E.WQ E.EV E.SQ E.BL E.LP E.FK E.S3 E.RK E.NEXT E.NQ E.INDEP
section
attribute [local go_sem] mdM toNat_pred
theorem copyU_s (c : Clu) (hs : ∀ s ∈ c.srvs, (s.conf.reps.length ≤ 1048576 ∧ s.conf.wits.length ≤ 1048576) ∧ s.log.length ≤ 1048576 ∧ s.learned.length ≤ 1048576) (hsl : c.srvs.length ≤ 1048576) (hsd : c.sides.length ≤ 1048576) (hml : c.mast.confs.length ≤ 1048576) (hm : ∀ x ∈ c.mast.confs, x.reps.length ≤ 1048576 ∧ x.wits.length ≤ 1048576) (hpl : c.plcs.length ≤ 1048576) : Fn Go.Proofs.Tryz.prog 53 [.a (eClu false c)] [.a [.d, .d, .d, .d, .d, .d, .d, .d, .d, .d]] [.a (eClu true (c))] := by
  refine E.Fn.ev (n := 42) mdM false mix Go.Proofs.Tryz.func53 rfl (by simp [Go.Proofs.Tryz.f53]) Go.Proofs.Tryz.ntmps53 (by simp) (by kernel_rfl) (rs := [.cell 2 45]) (tys := [45]) rfl rfl (by simp [finOK, A.ts, OWN, ownE, ownT]) (by simp [resOK, A.ts, OWN, ownE, ownT, DE]) ?_
  simp only [go_sem]
  repeat' (first
    | simp only [IJS]
    | (refine E.CALL.use (copyS_s _ ?_ ?_ ?_ ?_) ?_ <;> (try simp only [go_sem]))
    | (refine E.CALL.use (copyM_s _ ?_ ?_) ?_ <;> (try simp only [go_sem]))
    | (refine E.GB.use (fun h => ?_) (fun h => ?_) <;> (simp only [go_sem, h]) <;> (try simp only [HFS] at h))
    | exact E.RK.mk (by kernel_rfl)
    | (refine E.IX_map ?_ (fun hx => ?_); rotate_left; simp only [go_sem])
    | (refine E.loopR (ι := Nat × Nat) 4 rfl (fun ⟨i, v⟩ => [(.s 4, .v (.c (.v (vi i)))), (.k (3, 0), .e ⟨v, 10, [[.v (vi c.now), .s true 12 ((c.srvs.take i).map (eSrv true)), .s false 1 (c.sides.map eInt), .s false 4 (c.mast.confs.map (eConf false)), .v (vi c.mast.act), .v (vi c.mup), .v (vi c.lse.epoch), .v (vi c.lse.holder), .v (vi c.lse.til), .s false 3 (c.plcs.map ePlc)]]⟩)]) [1, 2, 3, 27, 28, 29, 30, 31, 32, 33, 34, 35, 36, 37, 38, 39, 40, 41] [(3, 0)] [] (fun ⟨i, v⟩ => c.srvs.length - i) (fun ⟨i, v⟩ => i ≤ c.srvs.length ∧ v = v) mix (by kernel_rfl) (0, 2) ?_ ?_ (fun ⟨i, v⟩ ⟨hi, hv⟩ => ?_); all_goals (try simp (maxSteps := 900000) only [go_sem]); all_goals (try dsimp only at hi hv))
    | (refine E.NEXT.use [] (i + 1, v + 1) ?_ ?_ ?_; rotate_left 2; focus (simp (maxSteps := 900000) only [go_sem]; (repeat' (first | with_reducible rfl | exact E.RK.mk (by kernel_rfl) | apply And.intro | (push_cast; with_reducible rfl) | (refine E.int_c ?_; omega) | (simp only [go_sem]; done) | (rw [List.map_append]; rfl) | (simp; done) | (simp only [*]; done) | (rw [E.take_at, List.map_append] <;> first | rfl | omega; done) | fail)); done))
    | apply And.intro
    | omega
    | (simp only [List.length_take, List.length_drop, List.length_append, List.length_set, List.length_cons, List.length_nil]; omega)
    | refine congrArg (List.map _) ?_
    | (exact (hs _ (E.at_mem (by omega))).1.1; done)
    | (exact (hs _ (E.at_mem (by omega))).1.2; done)
    | (exact (hs _ (E.at_mem (by omega))).2.1; done)
    | (exact (hs _ (E.at_mem (by omega))).2.2; done)
    | (rw [List.take_of_length_le (by omega)]; done)
    | fail)
theorem primNow_s (s : Srv) (id : Int) (h1 : s.conf.reps.length ≤ 1048576) (h2 : s.conf.wits.length ≤ 1048576) (h3 : s.log.length ≤ 1048576) (h4 : s.learned.length ≤ 1048576) : Fn Go.Proofs.Tryz.prog 34 [.a (eSrv false s), .c (.v (vi id))] [.a [.d, .d, .d, .d, .d, .d, .d, .d, .d, .d, .d, .d], .c .d] [.c (.v (.bool (primNow s id)))] := by
  refine E.Fn.ev (n := 27) mdM false mix Go.Proofs.Tryz.func34 rfl (by simp [Go.Proofs.Tryz.f34]) Go.Proofs.Tryz.ntmps34 (by simp) (by kernel_rfl) (rs := [.tmp 4]) (tys := [4]) rfl rfl (by simp [finOK, A.ts, OWN, ownE, ownT]) (by simp [resOK, A.ts, OWN, ownE, ownT, DE]) ?_
  simp only [go_sem]
  repeat' (first
    | simp only [IJS]
    | (refine E.CALL.use (validSrv_s _ _ ?_ ?_ ?_ ?_) ?_ <;> (try simp only [go_sem]))
    | (refine E.CALL.use (role_s _ _ ?_ ?_) ?_ <;> (try simp only [go_sem]))
    | (refine E.GB.use (fun h => ?_) (fun h => ?_) <;> (simp only [go_sem, h]) <;> (try simp only [HFS] at h))
    | apply And.intro
    | omega
    | (simp_all [primNow]; done)
    | fail)
theorem confAt_bd {m : MLog} {e : Int} (hm : ∀ x ∈ m.confs, x.reps.length ≤ 1048576 ∧ x.wits.length ≤ 1048576) : (confAt m e).1.reps.length ≤ 1048576 ∧ (confAt m e).1.wits.length ≤ 1048576 := by
  unfold confAt
  split
  · rename_i h
    simp only [Bool.and_eq_true, inR_iff] at h
    exact hm _ (E.at_mem (by omega))
  · exact ⟨Nat.zero_le _, Nat.zero_le _⟩
theorem validClu_s (c : Clu) (hs : ∀ s ∈ c.srvs, (s.conf.reps.length ≤ 1048576 ∧ s.conf.wits.length ≤ 1048576) ∧ s.log.length ≤ 1048576 ∧ s.learned.length ≤ 1048576) (hsl : c.srvs.length ≤ 1048576) (hsd : c.sides.length ≤ 1048576) (hml : c.mast.confs.length ≤ 1048576) (hm : ∀ x ∈ c.mast.confs, x.reps.length ≤ 1048576 ∧ x.wits.length ≤ 1048576) (hpl : c.plcs.length ≤ 1048576) : Fn Go.Proofs.Tryz.prog 54 [.a (eClu false c)] [.a [.d, .d, .d, .d, .d, .d, .d, .d, .d, .d]] [.c (.v (.bool (validClu c)))] := by
  refine E.Fn.ev (n := 123) mdM false mix Go.Proofs.Tryz.func54 rfl (by simp [Go.Proofs.Tryz.f54]) Go.Proofs.Tryz.ntmps54 (by simp) (by kernel_rfl) (rs := [.tmp 2]) (tys := [4]) rfl rfl (by simp [finOK, A.ts, OWN, ownE, ownT]) (by simp [resOK, A.ts, OWN, ownE, ownT, DE]) ?_
  simp only [go_sem]
  repeat' (first
    | simp only [IJS]
    | (refine E.CALL.use (in_s _ _ _) ?_ <;> (try simp only [go_sem]))
    | (refine E.CALL.use (areSides_s _ ?_) ?_ <;> (try simp only [go_sem]))
    | (refine E.CALL.use (isML_s _ ?_ ?_) ?_ <;> (try simp only [go_sem]))
    | (refine E.CALL.use (isLease_s _) ?_ <;> (try simp only [go_sem]))
    | (refine E.CALL.use (arePlc_s _ ?_) ?_ <;> (try simp only [go_sem]))
    | (refine E.CALL.use (validSrv_s _ _ ?_ ?_ ?_ ?_) ?_ <;> (try simp only [go_sem]))
    | (refine E.CALL.use (lastE_s _ ?_) ?_ <;> (try simp only [go_sem]))
    | (refine E.CALL.use (confAt_s _ _ ?_ ?_) ?_ <;> (try simp only [go_sem]))
    | (refine E.CALL.use (none_s _ ?_ ?_) ?_ <;> (try simp only [go_sem]))
    | (refine E.CALL.use (eqConf_s _ _ ?_ ?_ ?_ ?_) ?_ <;> (try simp only [go_sem]))
    | (refine E.GB.use (fun h => ?_) (fun h => ?_) <;> (simp only [go_sem, h]) <;> (try simp only [HFS] at h))
    | exact E.INDEP.mk2 (by kernel_rfl)
    | exact E.RK.mk (by kernel_rfl)
    | (refine E.IX_map ?_ (fun hx => ?_); rotate_left; simp only [go_sem])
    | (refine E.loopR (ι := Nat) 4 rfl (fun i => [(.s 3, .v (.c (.v (vi i))))]) [1] [] [] (fun i => (c.srvs).length - i) (fun i => i ≤ (c.srvs).length ∧ (inR c.now 0 999 && ((c.srvs.length : Int) == 5) && areSides c.sides && isML c.mast && isLease c.lse && arePlaces c.plcs && inR c.mup 0 3 && decide (c.lse.epoch ≤ c.mast.act) && srvsOK c i (c.srvs.drop i)) = validClu c) mix (by kernel_rfl) 0 ?_ ?_ (fun i ⟨hi, hR⟩ => ?_); all_goals (try simp (maxSteps := 900000) only [go_sem]); all_goals (try dsimp only at hi hR))
    | (refine E.NEXT.use [] (i + 1) ?_ ?_ ?_; rotate_left 2; focus (simp (maxSteps := 900000) only [go_sem]; (repeat' (first | with_reducible rfl | exact E.RK.mk (by kernel_rfl) | apply And.intro | (push_cast; with_reducible rfl) | (refine E.int_c ?_; omega) | (simp only [go_sem]; done) | (rw [List.map_append]; rfl) | (simp; done) | (simp only [*]; done) | fail)); done))
    | apply And.intro
    | omega
    | (exact (hs _ (E.at_mem (by omega))).1.1; done)
    | (exact (hs _ (E.at_mem (by omega))).1.2; done)
    | (exact (hs _ (E.at_mem (by omega))).2.1; done)
    | (exact (hs _ (E.at_mem (by omega))).2.2; done)
    | (exact (confAt_bd hm).1; done)
    | (exact (confAt_bd hm).2; done)
    | (rfl; done)
    | (rw [E.drop_end (l := c.srvs) (i := i) (by omega)] at hR; rw [← hR]; simp_all [srvsOK]; done)
    | (rw [drop_at (l := c.srvs) (i := i) (by omega)] at hR; rw [← hR]; simp_all [srvsOK]; done)
    | (rw [drop_at (l := c.srvs) (i := i) (by omega)] at hR; have h9 : decide ((at' c.srvs i).epoch ≤ c.mast.confs.length) = false := (by simp; omega); rw [← hR]; simp [srvsOK, h9]; done)
    | (rw [drop_at (l := c.srvs) (i := i) (by omega)] at hR; have h9 : decide (lastE (at' c.srvs i).learned ≤ c.mast.act) = false := (by simp; omega); rw [← hR]; simp [srvsOK, h9]; done)
    | (rw [drop_at (l := c.srvs) (i := i) (by omega)] at hR; have h9 : decide ((at' c.srvs i).conf.epoch ≤ c.mast.act) = false := (by simp; omega); rw [← hR]; simp [srvsOK, h9, *]; done)
    | (have h9 : decide (c.lse.epoch ≤ c.mast.act) = false := (by simp; omega); simp [validClu, h9]; done)
    | (simp_all [validClu]; done)
    | fail)
end
section
attribute [local go_sem] mdG_eq mdM toNat_pred setI List.length_set eLI_eq eLE_eq
theorem comData_ni {s : Srv} {id : Int} (h : isRep s id = false) : s.learned = comData s id := by rw [comData, if_neg (by simp [h])]
theorem comData_nl {s : Srv} {id : Int} (h : ((comPart s).length : Int) ≤ s.learned.length) : s.learned = comData s id := by rw [comData, if_neg (by omega)]
theorem comData_y {s : Srv} {id : Int} (h : isRep s id = true) (h2 : (s.learned.length : Int) < (comPart s).length) : comPart s = comData s id := by rw [comData, if_pos ⟨h, by omega⟩]
theorem isRep_role {s : Srv} {id : Int} (h : roleOf s.conf id = 1 ∨ roleOf s.conf id = 2) : isRep s id = true := by
  have hv := role_valid (c := s.conf) (id := id) (by omega)
  exact (role_rep hv).1 h
theorem isRep_nr {s : Srv} {id : Int} (hv : s.conf = noConf ∨ validConf s.conf = true) (h1 : ¬ roleOf s.conf id = 1) (h2 : ¬ roleOf s.conf id = 2) : isRep s id = false := by
  rcases hv with hv | hv
  · simp [isRep, hv, noConf]
  · have := (role_rep (id := id) hv).2
    cases h : isRep s id
    · rfl
    · rcases this h with h | h
      · exact absurd h h1
      · exact absurd h h2
end
section
attribute [local go_sem] mdG_eq mdM toNat_pred setI List.length_set mdL_eq E.b_rem
theorem toOp_l (a : ROp) : Fn Go.Proofs.Tryz.prog 17 [.a (eROp a)] [.a [.d, .d, .d, .d, .d, .d]] [.a (eROp (a))] := by
  refine E.Fn.ev (n := 23) mdL false mix Go.Proofs.Tryz.func17 rfl (by simp [Go.Proofs.Tryz.f17]) Go.Proofs.Tryz.ntmps17 (by simp) (by kernel_rfl) (rs := [.cell 2 56]) (tys := [56]) rfl rfl (by simp [finOK, A.ts, OWN, ownE, ownT]) (by simp [resOK, A.ts, OWN, ownE, ownT, DE]) ?_
  simp only [go_sem]
  repeat' (first
    | simp only [IJS]
    | apply And.intro
    | omega
    | fail)
theorem toEnt_l (a : LEnt) : Fn Go.Proofs.Tryz.prog 171 [.a (eLEnt a)] [.a [.d, .d, .d, .d, .d, .d, .d]] [.a (eLEnt (a))] := by
  refine E.Fn.ev (n := 12) mdL false mix Go.Proofs.Tryz.func171 rfl (by simp [Go.Proofs.Tryz.f171]) Go.Proofs.Tryz.ntmps171 (by simp) (by kernel_rfl) (rs := [.cell 2 94]) (tys := [94]) rfl rfl (by simp [finOK, A.ts, OWN, ownE, ownT]) (by simp [resOK, A.ts, OWN, ownE, ownT, DE]) ?_
  simp only [go_sem]
  repeat' (first
    | simp only [IJS]
    | (refine E.CALL.use (toOp_l _) ?_ <;> (try simp only [go_sem]))
    | apply And.intro
    | omega
    | fail)
theorem toPlc_l (a : Plc) : Fn Go.Proofs.Tryz.prog 89 [.a (ePlc a)] [.a [.d, .d, .d]] [.a (ePlc (a))] := by
  refine E.Fn.ev (n := 14) mdL false mix Go.Proofs.Tryz.func89 rfl (by simp [Go.Proofs.Tryz.f89]) Go.Proofs.Tryz.ntmps89 (by simp) (by kernel_rfl) (rs := [.cell 2 122]) (tys := [122]) rfl rfl (by simp [finOK, A.ts, OWN, ownE, ownT]) (by simp [resOK, A.ts, OWN, ownE, ownT, DE]) ?_
  simp only [go_sem]
  repeat' (first
    | simp only [IJS]
    | apply And.intro
    | omega
    | fail)
theorem toLse_l (a : Lse) : Fn Go.Proofs.Tryz.prog 39 [.a (eLse a)] [.a [.d, .d, .d]] [.a (eLse (a))] := by
  refine E.Fn.ev (n := 14) mdL false mix Go.Proofs.Tryz.func39 rfl (by simp [Go.Proofs.Tryz.f39]) Go.Proofs.Tryz.ntmps39 (by simp) (by kernel_rfl) (rs := [.cell 2 42]) (tys := [42]) rfl rfl (by simp [finOK, A.ts, OWN, ownE, ownT]) (by simp [resOK, A.ts, OWN, ownE, ownT, DE]) ?_
  simp only [go_sem]
  repeat' (first
    | simp only [IJS]
    | apply And.intro
    | omega
    | fail)
theorem toI_l (l : List Int) (hl : l.length ≤ 1048576) : Fn Go.Proofs.Tryz.prog 24 [.c (.s false 1 (l.map eInt))] [.c .d] [.c (.s true 1 ((l).map eInt))] := by
  refine E.Fn.ev (n := 22) mdL false mix Go.Proofs.Tryz.func24 rfl (by simp [Go.Proofs.Tryz.f24]) Go.Proofs.Tryz.ntmps24 (by simp) (by kernel_rfl) (rs := [.tmp 2]) (tys := [23]) rfl rfl (by simp [finOK, A.ts, OWN, ownE, ownT]) (by simp [resOK, A.ts, OWN, ownE, ownT, DE]) ?_
  simp only [go_sem]
  repeat' (first
    | simp only [IJS]
    | (refine E.GB.use (fun h => ?_) (fun h => ?_) <;> (simp only [go_sem, h]) <;> (try simp only [HFS] at h))
    | exact E.RK.mk (by kernel_rfl)
    | (refine E.IX_map ?_ (fun hx => ?_); rotate_left; simp only [go_sem])
    | (refine E.loopR (ι := Nat) 3 rfl (fun i => [(.s 4, .v (.c (.v (vi i)))), (.k (7, 0), .e ⟨0, 1, (E.cp l i (0 : Int)).map eInt⟩)]) [0, 2, 3, 21] [(7, 0)] [] (fun i => l.length - i) (fun i => i ≤ l.length ∧ (E.cp l i (0 : Int)).length = l.length) mix (by kernel_rfl) 0 ?_ ?_ (fun i ⟨hi, hw⟩ => ?_); all_goals (try simp (maxSteps := 900000) only [go_sem]); all_goals (try dsimp only at hi hw))
    | (refine E.NEXT.use [] (i + 1) ?_ ?_ ?_; rotate_left 2; focus (simp (maxSteps := 900000) only [go_sem]; (repeat' (first | with_reducible rfl | exact E.RK.mk (by kernel_rfl) | apply And.intro | (push_cast; with_reducible rfl) | (refine E.int_c ?_; omega) | (simp only [go_sem]; done) | (rw [List.map_append]; rfl) | (simp; done) | (simp only [*]; done) | (rw [← E.cp_set, List.map_set] <;> first | rfl | omega; done) | fail)); done))
    | apply And.intro
    | omega
    | refine congrArg (List.map _) ?_
    | (rw [E.cp_len (by omega)]; done)
    | (rw [E.cp_zero, ← zeros]; rfl; done)
    | (have e : i = l.length := (by omega); subst e; rw [E.cp_full]; done)
    | fail)
theorem toE_l (l : List LEnt) (hl : l.length ≤ 1048576) : Fn Go.Proofs.Tryz.prog 140 [.c (.s false 7 (l.map eLEnt))] [.c .d] [.c (.s true 7 ((l).map eLEnt))] := by
  refine E.Fn.ev (n := 23) mdL false mix Go.Proofs.Tryz.func140 rfl (by simp [Go.Proofs.Tryz.f140]) Go.Proofs.Tryz.ntmps140 (by simp) (by kernel_rfl) (rs := [.tmp 2]) (tys := [74]) rfl rfl (by simp [finOK, A.ts, OWN, ownE, ownT]) (by simp [resOK, A.ts, OWN, ownE, ownT, DE]) ?_
  simp only [go_sem]
  repeat' (first
    | simp only [IJS]
    | (refine E.CALL.use (toEnt_l _) ?_ <;> (try simp only [go_sem]))
    | (refine E.GB.use (fun h => ?_) (fun h => ?_) <;> (simp only [go_sem, h]) <;> (try simp only [HFS] at h))
    | exact E.RK.mk (by kernel_rfl)
    | (refine E.IX_map ?_ (fun hx => ?_); rotate_left; simp only [go_sem])
    | (refine E.loopR (ι := Nat) 3 rfl (fun i => [(.s 4, .v (.c (.v (vi i)))), (.k (7, 0), .e ⟨0, 7, (E.cp l i (default : LEnt)).map eLEnt⟩)]) [0, 2, 3, 22] [(7, 0)] [] (fun i => l.length - i) (fun i => i ≤ l.length ∧ (E.cp l i (default : LEnt)).length = l.length) mix (by kernel_rfl) 0 ?_ ?_ (fun i ⟨hi, hw⟩ => ?_); all_goals (try simp (maxSteps := 900000) only [go_sem]); all_goals (try dsimp only at hi hw))
    | (refine E.NEXT.use [] (i + 1) ?_ ?_ ?_; rotate_left 2; focus (simp (maxSteps := 900000) only [go_sem]; (repeat' (first | with_reducible rfl | exact E.RK.mk (by kernel_rfl) | apply And.intro | (push_cast; with_reducible rfl) | (refine E.int_c ?_; omega) | (simp only [go_sem]; done) | (rw [List.map_append]; rfl) | (simp; done) | (simp only [*]; done) | (rw [← E.cp_set, List.map_set] <;> first | rfl | omega; done) | fail)); done))
    | apply And.intro
    | omega
    | refine congrArg (List.map _) ?_
    | (rw [E.cp_len (by omega)]; done)
    | (rw [E.cp_zero, ← zeros]; rfl; done)
    | (have e : i = l.length := (by omega); subst e; rw [E.cp_full]; done)
    | fail)
theorem toP_l (l : List Plc) (hl : l.length ≤ 1048576) : Fn Go.Proofs.Tryz.prog 40 [.c (.s false 3 (l.map ePlc))] [.c .d] [.c (.s true 3 ((l).map ePlc))] := by
  refine E.Fn.ev (n := 23) mdL false mix Go.Proofs.Tryz.func40 rfl (by simp [Go.Proofs.Tryz.f40]) Go.Proofs.Tryz.ntmps40 (by simp) (by kernel_rfl) (rs := [.tmp 2]) (tys := [43]) rfl rfl (by simp [finOK, A.ts, OWN, ownE, ownT]) (by simp [resOK, A.ts, OWN, ownE, ownT, DE]) ?_
  simp only [go_sem]
  repeat' (first
    | simp only [IJS]
    | (refine E.CALL.use (toPlc_l _) ?_ <;> (try simp only [go_sem]))
    | (refine E.GB.use (fun h => ?_) (fun h => ?_) <;> (simp only [go_sem, h]) <;> (try simp only [HFS] at h))
    | exact E.RK.mk (by kernel_rfl)
    | (refine E.IX_map ?_ (fun hx => ?_); rotate_left; simp only [go_sem])
    | (refine E.loopR (ι := Nat) 3 rfl (fun i => [(.s 4, .v (.c (.v (vi i)))), (.k (7, 0), .e ⟨0, 3, (E.cp l i (default : Plc)).map ePlc⟩)]) [0, 2, 3, 22] [(7, 0)] [] (fun i => l.length - i) (fun i => i ≤ l.length ∧ (E.cp l i (default : Plc)).length = l.length) mix (by kernel_rfl) 0 ?_ ?_ (fun i ⟨hi, hw⟩ => ?_); all_goals (try simp (maxSteps := 900000) only [go_sem]); all_goals (try dsimp only at hi hw))
    | (refine E.NEXT.use [] (i + 1) ?_ ?_ ?_; rotate_left 2; focus (simp (maxSteps := 900000) only [go_sem]; (repeat' (first | with_reducible rfl | exact E.RK.mk (by kernel_rfl) | apply And.intro | (push_cast; with_reducible rfl) | (refine E.int_c ?_; omega) | (simp only [go_sem]; done) | (rw [List.map_append]; rfl) | (simp; done) | (simp only [*]; done) | (rw [← E.cp_set, List.map_set] <;> first | rfl | omega; done) | fail)); done))
    | apply And.intro
    | omega
    | refine congrArg (List.map _) ?_
    | (rw [E.cp_len (by omega)]; done)
    | (rw [E.cp_zero, ← zeros]; rfl; done)
    | (have e : i = l.length := (by omega); subst e; rw [E.cp_full]; done)
    | fail)
theorem toC_l (a : Conf) (hB : ConfB a) : Fn Go.Proofs.Tryz.prog 139 [.a (eConf false a)] [.a [.d, .d, .d, .d]] [.a (eConf true (a))] := by
  refine E.Fn.ev (n := 19) mdL false mix Go.Proofs.Tryz.func139 rfl (by simp [Go.Proofs.Tryz.f139]) Go.Proofs.Tryz.ntmps139 (by simp) (by kernel_rfl) (rs := [.cell 2 73]) (tys := [73]) rfl rfl (by simp [finOK, A.ts, OWN, ownE, ownT]) (by simp [resOK, A.ts, OWN, ownE, ownT, DE]) ?_
  simp only [go_sem]
  repeat' (first
    | simp only [IJS]
    | (refine E.CALL.use (toI_l _ ?_) ?_ <;> (try simp only [go_sem]))
    | apply And.intro
    | omega
    | (exact ConfB.r (by assumption); done)
    | (exact ConfB.w (by assumption); done)
    | fail)
theorem toCs_l (l : List Conf) (hl : l.length ≤ 1048576) (hb : ∀ x ∈ l, ConfB x) : Fn Go.Proofs.Tryz.prog 88 [.c (.s false 4 (l.map (eConf false)))] [.c .d] [.c (.s true 4 ((l).map (eConf true)))] := by
  refine E.Fn.ev (n := 23) mdL false mix Go.Proofs.Tryz.func88 rfl (by simp [Go.Proofs.Tryz.f88]) Go.Proofs.Tryz.ntmps88 (by simp) (by kernel_rfl) (rs := [.tmp 2]) (tys := [39]) rfl rfl (by simp [finOK, A.ts, OWN, ownE, ownT]) (by simp [resOK, A.ts, OWN, ownE, ownT, DE]) ?_
  simp only [go_sem]
  repeat' (first
    | simp only [IJS]
    | (refine E.CALL.use (toC_l _ ?_) ?_ <;> (try simp only [go_sem]))
    | (refine E.GB.use (fun h => ?_) (fun h => ?_) <;> (simp only [go_sem, h]) <;> (try simp only [HFS] at h))
    | exact E.RK.mk (by kernel_rfl)
    | (refine E.IX_map ?_ (fun hx => ?_); rotate_left; simp only [go_sem])
    | (refine E.loopR (ι := Nat × Nat) 3 rfl (fun ⟨i, v⟩ => [(.s 4, .v (.c (.v (vi i)))), (.k (7, 0), .e ⟨v, 4, (E.cp l i (default : Conf)).map (eConf true)⟩)]) [0, 2, 3, 22] [(7, 0)] [] (fun ⟨i, v⟩ => l.length - i) (fun ⟨i, v⟩ => i ≤ l.length ∧ (E.cp l i (default : Conf)).length = l.length) mix (by kernel_rfl) (0, 0) ?_ ?_ (fun ⟨i, v⟩ ⟨hi, hw⟩ => ?_); all_goals (try simp (maxSteps := 900000) only [go_sem]); all_goals (try dsimp only at hi hw))
    | (refine E.NEXT.use [] (i + 1, v + 1) ?_ ?_ ?_; rotate_left 2; focus (simp (maxSteps := 900000) only [go_sem]; (repeat' (first | with_reducible rfl | exact E.RK.mk (by kernel_rfl) | apply And.intro | (push_cast; with_reducible rfl) | (refine E.int_c ?_; omega) | (simp only [go_sem]; done) | (rw [List.map_append]; rfl) | (simp; done) | (simp only [*]; done) | (rw [← E.cp_set, List.map_set] <;> first | rfl | omega; done) | fail)); done))
    | apply And.intro
    | omega
    | refine congrArg (List.map _) ?_
    | (rw [E.cp_len (by omega)]; done)
    | (rw [E.cp_zero, ← zeros]; rfl; done)
    | (have e : i = l.length := (by omega); subst e; rw [E.cp_full]; done)
    | (exact hb _ (E.at_mem (by omega)); done)
    | fail)
theorem toM_l (a : MLog) (hM : MLB a) : Fn Go.Proofs.Tryz.prog 38 [.a (eMLog false a)] [.a [.d, .d]] [.a (eMLog true (a))] := by
  refine E.Fn.ev (n := 12) mdL false mix Go.Proofs.Tryz.func38 rfl (by simp [Go.Proofs.Tryz.f38]) Go.Proofs.Tryz.ntmps38 (by simp) (by kernel_rfl) (rs := [.cell 2 41]) (tys := [41]) rfl rfl (by simp [finOK, A.ts, OWN, ownE, ownT]) (by simp [resOK, A.ts, OWN, ownE, ownT, DE]) ?_
  simp only [go_sem]
  repeat' (first
    | simp only [IJS]
    | (refine E.CALL.use (toCs_l _ ?_ ?_) ?_ <;> (try simp only [go_sem]))
    | apply And.intro
    | omega
    | (exact hM.len; done)
    | (exact hM.confs; done)
    | fail)
theorem toS_l (a : Srv) (hB : SrvB a) : Fn Go.Proofs.Tryz.prog 87 [.a (eSrv false a)] [.a [.d, .d, .d, .d, .d, .d, .d, .d, .d, .d, .d, .d]] [.a (eSrv true (a))] := by
  refine E.Fn.ev (n := 35) mdL false mix Go.Proofs.Tryz.func87 rfl (by simp [Go.Proofs.Tryz.f87]) Go.Proofs.Tryz.ntmps87 (by simp) (by kernel_rfl) (rs := [.cell 2 76]) (tys := [76]) rfl rfl (by simp [finOK, A.ts, OWN, ownE, ownT]) (by simp [resOK, A.ts, OWN, ownE, ownT, DE]) ?_
  simp only [go_sem]
  repeat' (first
    | simp only [IJS]
    | (refine E.CALL.use (toC_l _ ?_) ?_ <;> (try simp only [go_sem]))
    | (refine E.CALL.use (toE_l _ ?_) ?_ <;> (try simp only [go_sem]))
    | apply And.intro
    | omega
    | (exact SrvB.conf (by assumption); done)
    | (exact SrvB.log (by assumption); done)
    | (exact SrvB.learned (by assumption); done)
    | fail)
theorem toSs_l (l : List Srv) (hl : l.length ≤ 1048576) (hb : ∀ x ∈ l, SrvB x) : Fn Go.Proofs.Tryz.prog 37 [.c (.s false 12 (l.map (eSrv false)))] [.c .d] [.c (.s true 12 ((l).map (eSrv true)))] := by
  refine E.Fn.ev (n := 23) mdL false mix Go.Proofs.Tryz.func37 rfl (by simp [Go.Proofs.Tryz.f37]) Go.Proofs.Tryz.ntmps37 (by simp) (by kernel_rfl) (rs := [.tmp 2]) (tys := [38]) rfl rfl (by simp [finOK, A.ts, OWN, ownE, ownT]) (by simp [resOK, A.ts, OWN, ownE, ownT, DE]) ?_
  simp only [go_sem]
  repeat' (first
    | simp only [IJS]
    | (refine E.CALL.use (toS_l _ ?_) ?_ <;> (try simp only [go_sem]))
    | (refine E.GB.use (fun h => ?_) (fun h => ?_) <;> (simp only [go_sem, h]) <;> (try simp only [HFS] at h))
    | exact E.RK.mk (by kernel_rfl)
    | (refine E.IX_map ?_ (fun hx => ?_); rotate_left; simp only [go_sem])
    | (refine E.loopR (ι := Nat × Nat) 3 rfl (fun ⟨i, v⟩ => [(.s 4, .v (.c (.v (vi i)))), (.k (7, 0), .e ⟨v, 12, (E.cp l i (default : Srv)).map (eSrv true)⟩)]) [0, 2, 3, 22] [(7, 0)] [] (fun ⟨i, v⟩ => l.length - i) (fun ⟨i, v⟩ => i ≤ l.length ∧ (E.cp l i (default : Srv)).length = l.length) mix (by kernel_rfl) (0, 0) ?_ ?_ (fun ⟨i, v⟩ ⟨hi, hw⟩ => ?_); all_goals (try simp (maxSteps := 900000) only [go_sem]); all_goals (try dsimp only at hi hw))
    | (refine E.NEXT.use [] (i + 1, v + 1) ?_ ?_ ?_; rotate_left 2; focus (simp (maxSteps := 900000) only [go_sem]; (repeat' (first | with_reducible rfl | exact E.RK.mk (by kernel_rfl) | apply And.intro | (push_cast; with_reducible rfl) | (refine E.int_c ?_; omega) | (simp only [go_sem]; done) | (rw [List.map_append]; rfl) | (simp; done) | (simp only [*]; done) | (rw [← E.cp_set, List.map_set] <;> first | rfl | omega; done) | fail)); done))
    | apply And.intro
    | omega
    | refine congrArg (List.map _) ?_
    | (rw [E.cp_len (by omega)]; done)
    | (rw [E.cp_zero, ← zeros]; rfl; done)
    | (have e : i = l.length := (by omega); subst e; rw [E.cp_full]; done)
    | (exact hb _ (E.at_mem (by omega)); done)
    | fail)
theorem toU_l (a : Clu) (hB : CluB a) : Fn Go.Proofs.Tryz.prog 10 [.a (eClu false a)] [.a [.d, .d, .d, .d, .d, .d, .d, .d, .d, .d]] [.a (eClu true (a))] := by
  refine E.Fn.ev (n := 31) mdL false mix Go.Proofs.Tryz.func10 rfl (by simp [Go.Proofs.Tryz.f10]) Go.Proofs.Tryz.ntmps10 (by simp) (by kernel_rfl) (rs := [.cell 2 45]) (tys := [45]) rfl rfl (by simp [finOK, A.ts, OWN, ownE, ownT]) (by simp [resOK, A.ts, OWN, ownE, ownT, DE]) ?_
  simp only [go_sem]
  repeat' (first
    | simp only [IJS]
    | (refine E.CALL.use (toSs_l _ ?_ ?_) ?_ <;> (try simp only [go_sem]))
    | (refine E.CALL.use (toI_l _ ?_) ?_ <;> (try simp only [go_sem]))
    | (refine E.CALL.use (toM_l _ ?_) ?_ <;> (try simp only [go_sem]))
    | (refine E.CALL.use (toLse_l _) ?_ <;> (try simp only [go_sem]))
    | (refine E.CALL.use (toP_l _ ?_) ?_ <;> (try simp only [go_sem]))
    | apply And.intro
    | omega
    | (exact hB.srvs; done)
    | (exact CluB.m (by assumption); done)
    | (exact CluB.sd (by assumption); done)
    | (exact CluB.pl (by assumption); done)
    | (exact CluB.sl (by assumption); done)
    | fail)
end
section
attribute [local go_sem] mdG_eq mdM toNat_pred setI List.length_set mdL_eq E.b_rem decE_self decN_self mkL_len mkL_at List.set_set E.rawCs_nil E.rawCs_s E.rawCs_v E.take_s markI_len markE_len
theorem markCs_l (l : List Conf) (k : Int) (hl : l.length ≤ 1048576) (hb : ∀ x ∈ l, ConfB x) (hk : 0 ≤ k) (hk2 : k ≤ 288230376151711744) : Fn Go.Proofs.Tryz.prog 131 [.c (.s true 4 (l.map (eConf true))), .c (.v (vi k))] [.c (.s true 4 ((markCs l k).map (eConf true))), .c .d] [.c (.v (vi (endCs l k)))] := by
  refine E.Fn.ev (n := 41) mdL false mix Go.Proofs.Tryz.func131 rfl (by simp [Go.Proofs.Tryz.f131]) Go.Proofs.Tryz.ntmps131 (by simp) (by kernel_rfl) (rs := [.tmp 4]) (tys := [3]) rfl rfl (by simp [finOK, A.ts, OWN, ownE, ownT]) (by simp [resOK, A.ts, OWN, ownE, ownT, DE]) ?_
  simp only [go_sem]
  repeat' (first
    | simp only [IJS]
    | (refine E.CALL.use (markI_l _ _ ?_ ?_ ?_) ?_ <;> (try simp only [go_sem]))
    | (refine E.GB.use (fun h => ?_) (fun h => ?_) <;> (simp only [go_sem, h]) <;> (try simp only [HFS] at h))
    | exact E.RK.mk (by kernel_rfl)
    | (refine E.IX_map ?_ (fun hx => ?_); rotate_left; simp only [go_sem])
    | (refine E.IX_set ?_ ?_; rotate_left; simp only [go_sem])
    | (refine E.loopR (ι := Nat × Nat) 2 rfl (fun ⟨i, v⟩ => [(.s 5, .v (.c (.v (vi i)))), (.s 1, .v (.c (.v (vi (mkK (fun c k => endC c (k + 1 + 1)) l k i))))), (.k (0, 0), .e ⟨v, 4, (mkL (confK) (fun c k => endC c (k + 1 + 1)) l k i).map (eConf true)⟩)]) [0, 4, 40] [(0, 0)] [] (fun ⟨i, v⟩ => l.length - i) (fun ⟨i, v⟩ => i ≤ l.length ∧ 0 ≤ mkK (fun c k => endC c (k + 1 + 1)) l k i) mix (by kernel_rfl) (0, 0) ?_ ?_ (fun ⟨i, v⟩ ⟨hi, hk0⟩ => ?_); all_goals (try simp (maxSteps := 900000) only [go_sem]); all_goals (try dsimp only at hi hk0))
    | (refine E.NEXT.use [] (i + 1, v + 2) ?_ ?_ ?_; rotate_left 2; focus (simp (maxSteps := 900000) only [go_sem]; (repeat' (first | with_reducible rfl | exact E.RK.mk (by kernel_rfl) | apply And.intro | (push_cast; with_reducible rfl) | (refine E.int_c ?_; omega) | (simp only [go_sem]; done) | (rw [List.map_append]; rfl) | (simp; done) | (simp only [*]; done) | (rfl; done) | (rw [mkL, List.map_set] <;> rfl; done) | fail)); done))
    | (have hw : i < (List.map (eConf true) (mkL (confK) (fun c k => endC c (k + 1 + 1)) l k i)).length := (by simp only [List.length_map, mkL_len]; omega); simp only [List.getElem?_set_self hw, go_sem])
    | apply And.intro
    | omega
    | refine congrArg (List.map _) ?_
    | (have e : i = l.length := (by omega); subst e; rw [mkL_C]; done)
    | (have e : i = l.length := (by omega); subst e; rw [mkK_C]; done)
    | (exact (hb _ (E.at_mem (by omega))).r; done)
    | (exact (hb _ (E.at_mem (by omega))).w; done)
    | (have g1 := mkK_Cle hb k i (by omega); omega; done)
    | (have g1 := mkK_Cle hb k i (by omega); have g2 := (hb (at' l i) (E.at_mem (by omega))).r; omega; done)
    | (rfl; done)
    | (exact hk; done)
    | (have g1 := mkK_Cge l k (i + 1); omega; done)
    | fail)
end
section
attribute [local go_sem] mdG_eq mdM toNat_pred setI List.length_set mdL_eq E.b_rem decE_self decN_self mkL_len mkL_at List.set_set E.rawCs_nil E.rawCs_s E.rawCs_v E.take_s markI_len markE_len
theorem markM_l (a : MLog) (k : Int) (hM : MLB a) (hk : 0 ≤ k) (hk2 : k ≤ 288230376151711744) : Fn Go.Proofs.Tryz.prog 70 [.a (eMLog true a), .c (.v (vi k))] [.a [.s true 4 ((markCs a.confs k).map (eConf true)), .d], .c .d] [.c (.v (vi (endCs a.confs k)))] := by
  refine E.Fn.evH (n := 10) Go.Proofs.Tryz.func70 rfl (by simp [Go.Proofs.Tryz.f70]) Go.Proofs.Tryz.ntmps70 (by simp) (rs := [.tmp 4]) (tys := [3]) rfl rfl (by simp [finOK, A.ts, OWN, ownE, ownT, DE]) (by simp [resOK, A.ts, OWN, ownE, ownT, DE]) (fun H rv hR => ?_)
  have hR0 : ∀ j sz es, (eMLog true a)[j]? = some (.s true sz es) → (rv j).oneCell' = true := fun j sz es h => (hR j sz es h).one
  have r0 := hR 0 _ _ rfl
  have q0 := r0.one
  clear hR hR0
  simp only [go_sem]
  repeat' (first
    | (refine E.CALL.use (markCs_l _ _ ?_ ?_ ?_ ?_) ?_ <;> (try simp only [go_sem]))
    | simp only [IJS]
    | (refine E.evh_seq ?_; refine E.evh_reg (id := 0) mdL false (by rfl) ?_; simp only [go_sem])
    | (refine E.evh_seq ?_; refine E.evh_conv (id := 1) mdL false 3 6 [some (0, 0)] (by rfl) ?_; dsimp only [List.take, List.drop]; simp only [go_sem])
    | (apply E.CVT.use1 (t := 6); exact rfl; exact rfl; exact r0; simp only [go_sem])
    | (refine E.evh_seq ?_; refine E.evh_reg (id := 2) mdL false (by rfl) ?_; simp only [go_sem])
    | (refine E.evh_ret ?_; simp only [go_sem])
    | apply And.intro
    | omega
    | (exact hM.len; done)
    | (exact hM.confs; done)
    | (assumption; done)
    | (exact markCs_len _ _; done)
    | fail)
end
end Go.Abs

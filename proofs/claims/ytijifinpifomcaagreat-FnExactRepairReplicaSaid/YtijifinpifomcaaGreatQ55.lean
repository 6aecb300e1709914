/- Contracts of functions of the program, over the abstract machine, and facts for them. No condition. -/
import Derived.Test.YtijifinpifomcaaGreatFacts
import Derived.Test.YtijifinpifomcaaGreatPure20
import Derived.Test.YtijifinpifomcaaGreatQ10
import Derived.Test.YtijifinpifomcaaGreatQ13
import Derived.Test.YtijifinpifomcaaGreatQ3
import Derived.Test.YtijifinpifomcaaGreatQ41
import Derived.Test.YtijifinpifomcaaGreatQ43
import Derived.Test.YtijifinpifomcaaGreatQ8
set_option linter.unusedVariables false
set_option linter.unusedSimpArgs false
set_option linter.unnecessarySimpa false
set_option linter.constructorNameAsVariable false
set_option maxHeartbeats 4000000
set_option maxRecDepth 100000
namespace Go.Abs
open Go
attribute [local go_sem ↓] E.argsA_h E.wq_ret E.wq_req E.wq_bad E.wq_call E.wq_get E.wq_getO E.wq_getOs E.wq_getPs E.wq_fresh E.wq_anyNil E.wq_getR0 E.wq_getR E.wq_ixM E.wq_n E.wq_g E.wq_gn E.ev_skip E.ev_region E.ev_draw E.ev_seq E.ev_cond E.ev_block E.ev_exit E.ev_ret E.sq_n E.sq_e E.sq_r E.bl_n E.bl_e E.bl_r E.lp_n E.lp_e E.lp_r E.fk_n E.fk_r E.q_move E.q_assign E.q_pick E.q_bin E.q_binw E.q_un E.q_alloc E.q_box E.q_build E.q_buildS E.q_makeS E.q_load E.q_store E.q_nilCheck E.q_slice E.q_fieldAddr E.q_field E.q_indexAddr E.q_extract E.q_makeFunc E.q_call E.q_callT E.q_len E.q_append E.q_min E.q_max E.q_convert E.q_cap E.q_clear appendIM appendZM E.b_add E.b_sub E.b_mul E.b_eql E.b_neq E.b_lss E.b_leq E.b_gtr E.b_geq E.GO_tmp E.GO_int E.GO_bool E.GO_str E.GO_nil E.GO_func E.GOs_nil E.GOs_cons E.GPs_nil E.GPs_cons E.RW_nil E.RW_cons E.dstAt_0 E.dstAt_s E.keepL_nil E.keepL_s E.keepL_k E.rmN_nil E.rmN_cons E.memN_nil E.memN_cons E.memK_nil E.memK_cons E.ovl_nil E.ovl_kk E.ovl_sk E.ovl_ks E.ovl_ss ofL_s ofL_sk ofL_ks ofL_k ofL_nil E.CO_tmp E.CO_bool
attribute [local go_sem] E.RM_nil E.RM_cons E.kd_k E.sbr_eq E.s3_nil E.s3_s E.s3_k E.vr_c E.vr_a E.vr_p E.vr_q E.vr_t E.vr_f E.vr_u E.cr_r E.cr_v E.cr_b E.cr_n E.cr_u E.crs_nil E.crs_cons E.renK_nil E.renK_cons keysVs V.keys C.keys keysCs E.RG_nil E.RG_cons E.GV_v E.GB_true E.GB_false E.GX_b E.GG_t E.GG_f E.GG_u E.GU_some E.IX_0 E.IX_s E.CX_s E.FR_none E.EN_e E.GVB_b E.b_boolM E.b_nilM E.b_strM E.b_aggM
attribute [local go_sem] List.cons_append List.nil_append List.append_nil List.length_cons List.length_nil List.length_map List.length_append callM E.argsH_nil E.argsH_cons E.argH_c E.argH_a E.argH_f E.argH_p ptrH_s E.cellsH_nil E.cellsH_cons E.cellH_v E.cellH_b E.cellH_n E.cellH_nt E.cellH_u E.cellH_rt E.cellH_rf capsA capA callable backs backT resVs resV resC tupV lenV intV boolV getE getO entryL entryKs A.ts entryV entryC entryCs entryCap List.map_cons List.map_nil E.cut_n E.cut_r E.cutM plainL A.lastOK T.lastOK Bool.false_or A.capOK szEs szE szT SZ whole toB toC List.drop_zero List.take_zero List.take_succ_cons List.drop_succ_cons resultsM resultM outM outM1 convs conv finAs finA finT finTs Int.toNat_natCast A.plain T.plain List.isEmpty_nil List.isEmpty_cons Bool.or_true Bool.true_or Bool.and_self List.getElem?_cons_zero List.getElem?_cons_succ Option.bind_some Option.bind_none Option.bind Nat.zero_add Nat.add_zero OWN BOR ONE SCAL DE ETA E.take_rest Int.toNat_zero E.take_map E.drop_map E.take_len1 List.take_length E.app_map Int.natCast_zero Int.sub_zero Int.toNat_sub partCells V.cells convsL appendM srcM E.scalEs_nil E.scalEs_cons E.oneEs_nil E.oneEs_cons List.all_cons List.all_nil T.one Bool.and_true gone ownEs ownE ownT borEs borE borT setRow splice List.set_cons_zero List.set_cons_succ optI getOpt sliceM ptrTo app_ofL T.isV Value.oneCell' fillC zeroC spliceC allV eqVs eqV minV maxV setAt setCell holed List.dropLast List.getLast?_singleton Option.getD_some Option.isSome_some Option.isSome_none Bool.and_false Bool.true_and Bool.false_and Option.map_some Option.map_none false_or true_or or_true rowAt cellAt E.constV_nil E.constV_int E.constV_bool E.constV_str E.setCell_set E.setCell_len setRow setAt List.dropLast_cons_cons List.dropLast_singleton List.getLast?_cons_cons
attribute [local go_sem_proc ↓] reduceIte
attribute [local go_sem_proc] Nat.reduceEqDiff reduceCtorEq Nat.reduceAdd Nat.reduceMul
attribute [local irreducible] E.argsH E.argH E.cellsH E.cellH E.GV E.GB E.GX E.GG E.GU E.IX E.CX E.RW E.FR E.EN E.CALL E.GO E.GOs E.GPs E.GVB E.KD E.RM E.RG E.CO E.WQ E.EV E.SQ E.BL E.LP E.FK E.S3 E.RK E.NEXT E.NQ E.INDEP
section
attribute [local go_sem] mdG_eq mdM toNat_pred setI List.length_set mdL_eq E.b_rem decE_self decN_self mkL_len mkL_at List.set_set E.rawCs_nil E.rawCs_s E.rawCs_v E.take_s markI_len markE_len
theorem markU_l (a : Clu) (k : Int) (hB : CluB a) (hk : 0 ≤ k) (hk2 : k ≤ 72057594037927936) : Fn Go.Proofs.Tryz.prog 10 [.a (eClu true a), .c (.v (vi k))] [.a [.d, .s true 12 ((markSs a.srvs k).map (eSrv true)), .s true 1 ((markI a.sides (endSs a.srvs k)).map eInt), .s true 4 ((markCs a.mast.confs (endSs a.srvs k + a.sides.length)).map (eConf true)), .d, .d, .d, .d, .d, .s true 3 ((markP a.plcs (endCs a.mast.confs (endSs a.srvs k + a.sides.length))).map ePlc)], .c .d] [.c (.v (vi (endU a k)))] := by
  refine E.Fn.evH (n := 22) Go.Proofs.Tryz.func10 rfl (by simp [Go.Proofs.Tryz.f10]) Go.Proofs.Tryz.ntmps10 (by simp) (rs := [.tmp 4]) (tys := [3]) rfl rfl (by simp [finOK, A.ts, OWN, ownE, ownT, DE]) (by simp [resOK, A.ts, OWN, ownE, ownT, DE]) (fun H rv hR => ?_)
  have hR0 : ∀ j sz es, (eClu true a)[j]? = some (.s true sz es) → (rv j).oneCell' = true := fun j sz es h => (hR j sz es h).one
  have r1 := hR 1 _ _ rfl
  have q1 := r1.one
  have r2 := hR 2 _ _ rfl
  have q2 := r2.one
  have r3 := hR 3 _ _ rfl
  have q3 := r3.one
  have r9 := hR 9 _ _ rfl
  have q9 := r9.one
  clear hR hR0
  simp only [go_sem]
  repeat' (first
    | (refine E.CALL.use (markSs_l _ _ ?_ ?_ ?_ ?_) ?_ <;> (try simp only [go_sem]))
    | (refine E.CALL.use (markI_l _ _ ?_ ?_ ?_) ?_ <;> (try simp only [go_sem]))
    | (refine E.CALL.use (markM_l _ _ ?_ ?_ ?_) ?_ <;> (try simp only [go_sem]))
    | (refine E.CALL.use (markP_l _ _ ?_ ?_ ?_) ?_ <;> (try simp only [go_sem]))
    | simp only [IJS]
    | (refine E.evh_seq ?_; refine E.evh_reg (id := 0) mdL false (by rfl) ?_; simp only [go_sem])
    | (refine E.evh_seq ?_; refine E.evh_conv (id := 1) mdL false 3 6 [some (0, 1)] (by rfl) ?_; dsimp only [List.take, List.drop]; simp only [go_sem])
    | (apply E.CVT.use1 (t := 6); exact rfl; exact rfl; exact r1; simp only [go_sem])
    | (refine E.evh_seq ?_; refine E.evh_conv (id := 2) mdL false 3 10 [some (0, 2)] (by rfl) ?_; dsimp only [List.take, List.drop]; simp only [go_sem])
    | (apply E.CVT.use1 (t := 10); exact rfl; exact rfl; exact r2; simp only [go_sem])
    | (refine E.evh_seq ?_; refine E.evh_conv (id := 3) mdL false 3 14 [some (0, 3), none] (by rfl) ?_; dsimp only [List.take, List.drop]; simp only [go_sem])
    | (apply E.CVT.useA (t := 14); exact rfl; exact ⟨_, _, _, rfl, rfl, r3, rfl, ⟨_, rfl, rfl⟩⟩; simp only [go_sem])
    | (refine E.evh_seq ?_; refine E.evh_conv (id := 4) mdL false 3 18 [some (0, 9)] (by rfl) ?_; dsimp only [List.take, List.drop]; simp only [go_sem])
    | (apply E.CVT.use1 (t := 18); exact rfl; exact rfl; exact r9; simp only [go_sem])
    | (refine E.evh_seq ?_; refine E.evh_reg (id := 5) mdL false (by rfl) ?_; simp only [go_sem])
    | (refine E.evh_ret ?_; simp only [go_sem])
    | apply And.intro
    | omega
    | (exact hB.srvs; done)
    | (assumption; done)
    | (exact CluB.m (by assumption); done)
    | (exact CluB.sd (by assumption); done)
    | (exact CluB.pl (by assumption); done)
    | (exact CluB.sl (by assumption); done)
    | (have g1 := hB.sl; have g2 := hB.sd; have g3 := hB.m.len; have g4 := hB.pl; have a1 := endSs_le a.srvs k hB.srvs; have b1 := endSs_ge a.srvs k; omega; done)
    | (have g1 := hB.sl; have g2 := hB.sd; have g3 := hB.m.len; have g4 := hB.pl; have a1 := endSs_le a.srvs k hB.srvs; have b1 := endSs_ge a.srvs k; have a2 := endCs_le a.mast.confs (endSs a.srvs k + a.sides.length) hB.m.confs; have b2 := endCs_ge a.mast.confs (endSs a.srvs k + a.sides.length); omega; done)
    | (rfl; done)
    | (exact markCs_len _ _; done)
    | (exact markSs_len _ _; done)
    | (exact markP_len _ _; done)
    | fail)
end
section
attribute [local go_sem] mdG_eq mdM toNat_pred setI List.length_set mdL_eq E.b_rem decE_self decN_self mkL_len mkL_at List.set_set markI_len markE_len beq_self_eq_true Bool.not_true bne_self_eq_false
theorem heldU_x (y0 : Int) (y1 : List Srv) (y2 : List Int) (y3 : List Conf) (y4 : Int) (y5 : Int) (y6 : Int) (y7 : Int) (y8 : Int) (y9 : List Plc) (k : Int) (hB : CluB ⟨y0, y1, y2, ⟨y3, y4⟩, y5, ⟨y6, y7, y8⟩, y9⟩) (hk : 0 ≤ k) (hk2 : k ≤ 72057594037927936) : Fn Go.Proofs.Tryz.prog 11 [.a [.v (vi y0), .s false 12 (y1.map (eSrv false)), .s false 1 (y2.map eInt), .s false 4 (y3.map (eConf false)), .v (vi y4), .v (vi y5), .v (vi y6), .v (vi y7), .v (vi y8), .s false 3 (y9.map ePlc)], .c (.v (vi k))] [.a [.d, .d, .d, .d, .d, .d, .d, .d, .d, .d], .c .d] [.c (.v (vi (heldU ⟨y0, y1, y2, ⟨y3, y4⟩, y5, ⟨y6, y7, y8⟩, y9⟩ k)))] := heldU_l ⟨y0, y1, y2, ⟨y3, y4⟩, y5, ⟨y6, y7, y8⟩, y9⟩ k hB hk hk2
end
end Go.Abs

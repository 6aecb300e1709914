/- Contracts of functions of the program, over the abstract machine, and facts for them. No condition. -/
import Derived.Test.YtlpbeejmefhpeaaGreatFacts
import Derived.Test.YtlpbeejmefhpeaaGreatPure26
import Derived.Test.YtlpbeejmefhpeaaGreatQ13
import Derived.Test.YtlpbeejmefhpeaaGreatQ16
import Derived.Test.YtlpbeejmefhpeaaGreatQ28
import Derived.Test.YtlpbeejmefhpeaaGreatQ3
import Derived.Test.YtlpbeejmefhpeaaGreatQ4
import Derived.Test.YtlpbeejmefhpeaaGreatQ8
import Derived.Test.YtlpbeejmefhpeaaGreatQ97st2
set_option linter.unusedVariables false
set_option linter.unusedSimpArgs false
set_option linter.unnecessarySimpa false
set_option linter.constructorNameAsVariable false
set_option maxHeartbeats 4000000
set_option maxRecDepth 100000
namespace Go.Abs
open Go
attribute [local go_sem ↓] E.argsA_h E.wq_ret E.wq_req E.wq_bad E.wq_call E.wq_get E.wq_getO E.wq_getOs E.wq_getPs E.wq_fresh E.wq_anyNil E.wq_getR0 E.wq_getR E.wq_ixM E.wq_n E.wq_g E.wq_gn E.ev_skip E.ev_region E.ev_draw E.ev_seq E.ev_cond E.ev_block E.ev_exit E.ev_ret E.sq_n E.sq_e E.sq_r E.bl_n E.bl_e E.bl_r E.lp_n E.lp_e E.lp_r E.fk_n E.fk_r E.q_move E.q_assign E.q_pick E.q_bin E.q_binw E.q_un E.q_alloc E.q_box E.q_build E.q_buildS E.q_makeS E.q_load E.q_store E.q_nilCheck E.q_slice E.q_fieldAddr E.q_field E.q_indexAddr E.q_extract E.q_makeFunc E.q_call E.q_callT E.q_len E.q_append E.q_min E.q_max E.q_convert E.q_cap E.q_clear appendIM appendZM E.b_add E.b_sub E.b_mul E.b_eql E.b_neq E.b_lss E.b_leq E.b_gtr E.b_geq E.GO_tmp E.GO_int E.GO_bool E.GO_str E.GO_nil E.GO_func E.GOs_nil E.GOs_cons E.GPs_nil E.GPs_cons E.RW_nil E.RW_cons E.dstAt_0 E.dstAt_s E.keepL_nil E.keepL_s E.keepL_k E.rmN_nil E.rmN_cons E.memN_nil E.memN_cons E.memK_nil E.memK_cons E.ovl_nil E.ovl_kk E.ovl_sk E.ovl_ks E.ovl_ss ofL_s ofL_sk ofL_ks ofL_k ofL_nil E.CO_tmp E.CO_bool
attribute [local go_sem] E.RM_nil E.RM_cons E.kd_k E.sbr_eq E.s3_nil E.s3_s E.s3_k E.vr_c E.vr_a E.vr_p E.vr_q E.vr_t E.vr_f E.vr_u E.cr_r E.cr_v E.cr_b E.cr_n E.cr_u E.crs_nil E.crs_cons E.renK_nil E.renK_cons keysVs V.keys C.keys keysCs E.RG_nil E.RG_cons E.GV_v E.GB_true E.GB_false E.GX_b E.GG_t E.GG_f E.GG_u E.GU_some E.IX_0 E.IX_s E.CX_s E.FR_none E.EN_e E.GVB_b E.b_boolM E.b_nilM E.b_strM E.b_aggM
attribute [local go_sem] List.cons_append List.nil_append List.append_nil List.length_cons List.length_nil List.length_map List.length_append callM E.argsH_nil E.argsH_cons E.argH_c E.argH_a E.argH_f E.cellsH_nil E.cellsH_cons E.cellH_v E.cellH_b E.cellH_n E.cellH_nt E.cellH_u E.cellH_rt E.cellH_rf capsA capA callable backs backT resVs resV resC tupV lenV intV boolV getE getO entryL entryKs A.ts entryV entryC entryCs entryCap List.map_cons List.map_nil E.cut_n E.cut_r E.cutM plainL A.lastOK T.lastOK Bool.false_or A.capOK szEs szE szT SZ whole toB toC List.drop_zero List.take_zero List.take_succ_cons List.drop_succ_cons resultsM resultM outM outM1 convs conv finAs finA finT finTs Int.toNat_natCast A.plain T.plain List.isEmpty_nil List.isEmpty_cons Bool.or_true Bool.true_or Bool.and_self List.getElem?_cons_zero List.getElem?_cons_succ Option.bind_some Option.bind_none Option.bind Nat.zero_add Nat.add_zero OWN BOR ONE SCAL DE ETA E.take_rest Int.toNat_zero E.take_map E.drop_map E.take_len1 List.take_length E.app_map Int.natCast_zero Int.sub_zero Int.toNat_sub partCells V.cells convsL appendM srcM E.scalEs_nil E.scalEs_cons E.oneEs_nil E.oneEs_cons List.all_cons List.all_nil T.one Bool.and_true gone ownEs ownE ownT borEs borE borT setRow splice List.set_cons_zero List.set_cons_succ optI getOpt sliceM ptrTo app_ofL T.isV Value.oneCell' fillC zeroC spliceC allV eqVs eqV minV maxV setAt setCell holed List.dropLast List.getLast?_singleton Option.getD_some Option.isSome_some Option.isSome_none Bool.and_false Bool.true_and Bool.false_and Option.map_some Option.map_none false_or true_or or_true rowAt cellAt E.constV_nil E.constV_int E.constV_bool E.constV_str E.setCell_set E.setCell_len setRow setAt List.dropLast_cons_cons List.dropLast_singleton List.getLast?_cons_cons
attribute [local go_sem_proc ↓] reduceIte
attribute [local go_sem_proc] Nat.reduceEqDiff reduceCtorEq Nat.reduceAdd Nat.reduceMul
attribute [local irreducible] E.argsH E.argH E.cellsH E.cellH E.GV E.GB E.GX E.GG E.GU E.IX E.CX E.RW E.FR E.EN E.CALL E.GO E.GOs E.GPs E.GVB E.KD E.RM E.RG E.CO E.WQ E.EV E.SQ E.BL E.LP E.FK E.S3 E.RK E.NEXT E.NQ E.INDEP
section
attribute [local go_sem] mdG_eq mdM toNat_pred setI List.length_set eLI_eq eLE_eq
theorem hears_eq (c : Clu) (id m : Int) : hears c id m = (sameSide c.sides id m && (at' c.srvs m.toNat).up && ((at' c.srvs m.toNat).epoch == (at' c.srvs id.toNat).epoch) && decide ((at' c.srvs m.toNat).conf = (at' c.srvs id.toNat).conf) && decide ((at' c.srvs m.toNat).commit ≤ (at' c.srvs id.toNat).log.length)) := rfl
theorem hears_i (c : Clu) (id : Int) (m : Int) (hB : CluB c) (hi : hasSrv c id = true) (hm : 0 ≤ m ∧ m ≤ 4) : Fn Go.Proofs.Tryz.prog 169 [.a (eClu false c), .c (.v (vi id)), .c (.v (vi m))] [.a [.d, .d, .d, .d, .d, .d, .d, .d, .d, .d], .c .d, .c .d] [.c (.v (.bool (hears c id m)))] := by
  refine E.Fn.ev (n := 50) mdG false mix Go.Proofs.Tryz.func169 rfl (by simp [Go.Proofs.Tryz.f169]) Go.Proofs.Tryz.ntmps169 (by simp) (by kernel_rfl) (rs := [.tmp 6]) (tys := [4]) rfl rfl (by simp [finOK, A.ts, OWN, ownE, ownT]) (by simp [resOK, A.ts, OWN, ownE, ownT, DE]) ?_
  simp only [go_sem]
  repeat' (first
    | simp only [IJS]
    | (refine E.CALL.use (sameSide_i _ _ _ ?_) ?_ <;> (try simp only [go_sem]))
    | (refine E.CALL.use (eqConf_i_B _ _ ?_ ?_) ?_ <;> (try simp only [go_sem]))
    | (refine E.GB.use (fun h => ?_) (fun h => ?_) <;> (simp only [go_sem, h]) <;> (try simp only [HFS] at h))
    | exact E.INDEP.mk2 (by kernel_rfl)
    | (refine E.IX_map ?_ (fun hx => ?_); rotate_left; simp only [go_sem])
    | apply And.intro
    | omega
    | (have q := hasSrv_of hi; omega; done)
    | (exact (CluB.at (by assumption) _).conf; done)
    | (rw [hears_eq]; simp [*]; done)
    | fail)
theorem hears_s (c : Clu) (id : Int) (m : Int) (hB : CluB c) (hi : hasSrv c id = true) (hm : 0 ≤ m ∧ m ≤ 4) : Fn Go.Proofs.Tryz.prog 167 [.a (eClu false c), .c (.v (vi id)), .c (.v (vi m))] [.a [.d, .d, .d, .d, .d, .d, .d, .d, .d, .d], .c .d, .c .d] [.c (.v (.bool (hears c id m)))] := by
  refine E.Fn.ev (n := 56) mdG false mix Go.Proofs.Tryz.func167 rfl (by simp [Go.Proofs.Tryz.f167]) Go.Proofs.Tryz.ntmps167 (by simp) (by kernel_rfl) (rs := [.tmp 6]) (tys := [4]) rfl rfl (by simp [finOK, A.ts, OWN, ownE, ownT]) (by simp [resOK, A.ts, OWN, ownE, ownT, DE]) ?_
  simp only [go_sem]
  repeat' (first
    | simp only [IJS]
    | (refine E.CALL.use (sameSide_s _ _ _ ?_) ?_ <;> (try simp only [go_sem]))
    | (refine E.CALL.use (eqConf_s_B _ _ ?_ ?_) ?_ <;> (try simp only [go_sem]))
    | (refine E.GB.use (fun h => ?_) (fun h => ?_) <;> (simp only [go_sem, h]) <;> (try simp only [HFS] at h))
    | exact E.INDEP.mk2 (by kernel_rfl)
    | (refine E.IX_map ?_ (fun hx => ?_); rotate_left; simp only [go_sem])
    | apply And.intro
    | omega
    | (have q := hasSrv_of hi; omega; done)
    | (exact (CluB.at (by assumption) _).conf; done)
    | (rw [hears_eq]; simp [*]; done)
    | fail)
theorem groupFmt_i (c : Clu) (id : Int) (hB : CluB c) : Fn Go.Proofs.Tryz.prog 68 [.a (eClu false c), .c (.v (vi id))] [.a [.d, .d, .d, .d, .d, .d, .d, .d, .d, .d], .c .d] [.c (.v (vi (groupFmt c id)))] := by
  refine E.Fn.ev (n := 34) mdG false mix Go.Proofs.Tryz.func68 rfl (by simp [Go.Proofs.Tryz.f68]) Go.Proofs.Tryz.ntmps68 (by simp) (by kernel_rfl) (rs := [.tmp 4]) (tys := [3]) rfl rfl (by simp [finOK, A.ts, OWN, ownE, ownT]) (by simp [resOK, A.ts, OWN, ownE, ownT, DE]) ?_
  simp only [go_sem]
  repeat' (first
    | simp only [IJS]
    | (refine E.CALL.use (primAt_i _ _ ?_) ?_ <;> (try simp only [go_sem]))
    | (refine E.CALL.use (members_i_B _ ?_) ?_ <;> (try simp only [go_sem]))
    | (refine E.GB.use (fun h => ?_) (fun h => ?_) <;> (simp only [go_sem, h]) <;> (try simp only [HFS] at h))
    | exact E.RK.mk (by kernel_rfl)
    | (refine E.IX_map ?_ (fun hx => ?_); rotate_left; simp only [go_sem])
    | (refine E.loopR (ι := Nat × Int) 5 rfl (fun ⟨i, a⟩ => [(.s 20, .v (.c (.v (vi i)))), (.s 5, .v (.c (.v (vi a))))]) [2, 4, 18, 19, 33] [] [] (fun ⟨i, a⟩ => (membersOf (at' c.srvs id.toNat).conf).length - i) (fun ⟨i, a⟩ => i ≤ (membersOf (at' c.srvs id.toNat).conf).length ∧ ((membersOf (at' c.srvs id.toNat).conf).drop i).foldl (fun m x => min m (srvAt c x).ver) a = groupFmt c id) mix (by kernel_rfl) (0, 2) ?_ ?_ (fun ⟨i, a⟩ ⟨hi, hR⟩ => ?_); all_goals (try simp (maxSteps := 900000) only [go_sem]); all_goals (try dsimp only at hi hR))
    | (refine E.NEXT.use [] (i + 1, min a (at' c.srvs (at' (membersOf (at' c.srvs id.toNat).conf) i).toNat).ver) ?_ ?_ ?_; rotate_left 2; focus (simp (maxSteps := 900000) only [go_sem]; (repeat' (first | with_reducible rfl | exact E.RK.mk (by kernel_rfl) | apply And.intro | (push_cast; with_reducible rfl) | (refine E.int_c ?_; omega) | (simp only [go_sem]; done) | (rw [List.map_append]; rfl) | (simp; done) | (simp only [*]; done) | (refine E.int_c ?_; rw [Int.min_def]; split <;> split <;> omega; done) | fail)); done))
    | apply And.intro
    | omega
    | (have q := primAt_log (c := c) (id := id) (by assumption); have q2 := members_in (E.at_mem (l := membersOf (at' c.srvs id.toNat).conf) (i := i) (by omega)); omega; done)
    | (have q := members_len (at' c.srvs id.toNat).conf; omega; done)
    | (have q := primAt_log (c := c) (id := id) (by assumption); omega; done)
    | (exact (CluB.at (by assumption) _).conf; done)
    | (rw [drop_at (l := membersOf (at' c.srvs id.toNat).conf) (i := i) (by omega)] at hR; exact hR; done)
    | (rw [E.drop_end (l := membersOf (at' c.srvs id.toNat).conf) (i := i) (by omega)] at hR; exact hR; done)
    | (simp [groupFmt, srvAt, *]; done)
    | fail)
theorem groupFmt_s (c : Clu) (id : Int) (hB : CluB c) : Fn Go.Proofs.Tryz.prog 60 [.a (eClu false c), .c (.v (vi id))] [.a [.d, .d, .d, .d, .d, .d, .d, .d, .d, .d], .c .d] [.c (.v (vi (groupFmt c id)))] := by
  refine E.Fn.ev (n := 37) mdG false mix Go.Proofs.Tryz.func60 rfl (by simp [Go.Proofs.Tryz.f60]) Go.Proofs.Tryz.ntmps60 (by simp) (by kernel_rfl) (rs := [.tmp 4]) (tys := [3]) rfl rfl (by simp [finOK, A.ts, OWN, ownE, ownT]) (by simp [resOK, A.ts, OWN, ownE, ownT, DE]) ?_
  simp only [go_sem]
  repeat' (first
    | simp only [IJS]
    | (refine E.CALL.use (primAt_s _ _ ?_) ?_ <;> (try simp only [go_sem]))
    | (refine E.CALL.use (members_s_B _ ?_) ?_ <;> (try simp only [go_sem]))
    | (refine E.GB.use (fun h => ?_) (fun h => ?_) <;> (simp only [go_sem, h]) <;> (try simp only [HFS] at h))
    | exact E.INDEP.mk2 (by kernel_rfl)
    | exact E.RK.mk (by kernel_rfl)
    | (refine E.IX_map ?_ (fun hx => ?_); rotate_left; simp only [go_sem])
    | (refine E.loopR (ι := Nat × Int) 6 rfl (fun ⟨i, a⟩ => [(.s 7, .v (.c (.v (vi i)))), (.s 5, .v (.c (.v (vi a))))]) [2, 4, 6, 36] [] [] (fun ⟨i, a⟩ => (membersOf (at' c.srvs id.toNat).conf).length - i) (fun ⟨i, a⟩ => i ≤ (membersOf (at' c.srvs id.toNat).conf).length ∧ ((membersOf (at' c.srvs id.toNat).conf).drop i).foldl (fun m x => min m (srvAt c x).ver) a = groupFmt c id) mix (by kernel_rfl) (0, 2) ?_ ?_ (fun ⟨i, a⟩ ⟨hi, hR⟩ => ?_); all_goals (try simp (maxSteps := 900000) only [go_sem]); all_goals (try dsimp only at hi hR))
    | (refine E.NEXT.use [] (i + 1, min a (at' c.srvs (at' (membersOf (at' c.srvs id.toNat).conf) i).toNat).ver) ?_ ?_ ?_; rotate_left 2; focus (simp (maxSteps := 900000) only [go_sem]; (repeat' (first | with_reducible rfl | exact E.RK.mk (by kernel_rfl) | apply And.intro | (push_cast; with_reducible rfl) | (refine E.int_c ?_; omega) | (simp only [go_sem]; done) | (rw [List.map_append]; rfl) | (simp; done) | (simp only [*]; done) | (refine E.int_c ?_; rw [Int.min_def]; split <;> split <;> omega; done) | fail)); done))
    | apply And.intro
    | omega
    | (have q := primAt_log (c := c) (id := id) (by assumption); have q2 := members_in (E.at_mem (l := membersOf (at' c.srvs id.toNat).conf) (i := i) (by omega)); omega; done)
    | (have q := members_len (at' c.srvs id.toNat).conf; omega; done)
    | (have q := primAt_log (c := c) (id := id) (by assumption); omega; done)
    | (exact (CluB.at (by assumption) _).conf; done)
    | (rw [drop_at (l := membersOf (at' c.srvs id.toNat).conf) (i := i) (by omega)] at hR; exact hR; done)
    | (rw [E.drop_end (l := membersOf (at' c.srvs id.toNat).conf) (i := i) (by omega)] at hR; exact hR; done)
    | (simp [groupFmt, srvAt, *]; done)
    | fail)
end
section
attribute [local go_sem] mdG_eq mdM toNat_pred setI List.length_set mdI_eq mdL_eq Bool.not_true Bool.not_false
theorem appOn_s (c : Clu) (id : Int) (o : ROp) (hB : CluB c) : Fn Go.Proofs.Tryz.prog 16 [.a (eClu false c), .c (.v (vi id)), .a (eROp o)] [.a [.d, .d, .d, .d, .d, .d, .d, .d, .d, .d], .c .d, .a [.d, .d, .d, .d, .d, .d]] [.a (eClu true ((appendOn c id o).1)), .c (.v (vi ((appendOn c id o).2)))] := by
  refine E.Fn.ev (n := 124) mdI false mix Go.Proofs.Tryz.func16 rfl (by simp [Go.Proofs.Tryz.f16]) Go.Proofs.Tryz.ntmps16 (by simp) (by kernel_rfl) (rs := [.cell 6 45, .tmp 7]) (tys := [45, 3]) rfl rfl (by simp [finOK, A.ts, OWN, ownE, ownT]) (by simp [resOK, A.ts, OWN, ownE, ownT, DE]) ?_
  simp only [go_sem]
  repeat' (first
    | simp only [IJS]
    | (refine E.CALL.use (copyU_s_B _ ?_) ?_ <;> (try simp only [go_sem]))
    | (refine E.CALL.use (validClu_s_B _ ?_) ?_ <;> (try simp only [go_sem]))
    | (refine E.CALL.use (in_s _ _ _) ?_ <;> (try simp only [go_sem]))
    | (refine E.CALL.use (validOp_s _) ?_ <;> (try simp only [go_sem]))
    | (refine E.CALL.use (primNow_s_B _ _ ?_) ?_ <;> (try simp only [go_sem]))
    | (refine E.CALL.use (findOp_s _ _ _ ?_) ?_ <;> (try simp only [go_sem]))
    | (refine E.CALL.use (replay_s _ ?_) ?_ <;> (try simp only [go_sem]))
    | (refine E.CALL.use (apply_s _ _ ?_) ?_ <;> (try simp only [go_sem]))
    | (refine E.CALL.use (isNew_s _) ?_ <;> (try simp only [go_sem]))
    | (refine E.CALL.use (groupFmt_s _ _ ?_) ?_ <;> (try simp only [go_sem]))
    | (refine E.GB.use (fun h => ?_) (fun h => ?_) <;> (simp only [go_sem, h]) <;> (try simp only [HFS] at h))
    | ((first | refine E.INDEP.soft1 1 14 4 20 1 (by kernel_rfl) rfl rfl rfl rfl ?_); simp only [go_sem, E.gh_eq, List.drop_succ_cons, List.drop_zero, List.take_succ_cons, List.take_zero])
    | (exact E.RSOK.mk (by kernel_rfl))
    | exact E.INDEP.mk2 (by kernel_rfl)
    | (refine E.IX_map ?_ (fun hx => ?_); rotate_left; simp only [go_sem])
    | (refine E.IX_setCell ?_ (fun hx => ?_); rotate_left; simp only [go_sem])
    | apply And.intro
    | omega
    | refine congrArg (List.map _) ?_
    | (have q := hasSrv_of (c := c) (id := id) (by first | with_reducible assumption | exact hs_y (by with_reducible assumption) (by with_reducible assumption)); omega; done)
    | (have q := primAt_log (c := c) (id := id) (by first | with_reducible assumption | exact prim_y (by first | with_reducible assumption | exact hs_y (by with_reducible assumption) (by with_reducible assumption)) (by with_reducible assumption)); omega; done)
    | (have q := primAt_log (c := c) (id := id) (by first | with_reducible assumption | exact prim_y (by first | with_reducible assumption | exact hs_y (by with_reducible assumption) (by with_reducible assumption)) (by with_reducible assumption)); have q2 := findOp_bd (at' c.srvs id.toNat).log o.client o.seq; omega; done)
    | (exact replay_B _ (by have q := primAt_log (c := c) (id := id) (by first | with_reducible assumption | exact prim_y (by first | with_reducible assumption | exact hs_y (by with_reducible assumption) (by with_reducible assumption)) (by with_reducible assumption)); omega); done)
    | ((rw [ao_1 (hs_v (by with_reducible assumption))] <;> rfl); done)
    | ((rw [ao_1 (hs_i (by with_reducible assumption))] <;> rfl); done)
    | ((rw [ao_1o (by with_reducible assumption)] <;> rfl); done)
    | ((rw [ao_2 (by first | with_reducible assumption | exact hs_y (by with_reducible assumption) (by with_reducible assumption)) (by with_reducible assumption) (by with_reducible assumption)] <;> rfl); done)
    | ((rw [ao_3 (by first | with_reducible assumption | exact hs_y (by with_reducible assumption) (by with_reducible assumption)) (by with_reducible assumption) (by with_reducible assumption) (prim_n (by with_reducible assumption))] <;> rfl); done)
    | ((rw [ao_s (by first | with_reducible assumption | exact prim_y (by first | with_reducible assumption | exact hs_y (by with_reducible assumption) (by with_reducible assumption)) (by with_reducible assumption)) (by with_reducible assumption) (by omega) h] <;> rfl); done)
    | ((rw [ao_0 (by first | with_reducible assumption | exact prim_y (by first | with_reducible assumption | exact hs_y (by with_reducible assumption) (by with_reducible assumption)) (by with_reducible assumption)) (by with_reducible assumption) (by omega) (by unfold opB; with_reducible assumption)] <;> rfl); done)
    | ((rw [ao_f (by first | with_reducible assumption | exact prim_y (by first | with_reducible assumption | exact hs_y (by with_reducible assumption) (by with_reducible assumption)) (by with_reducible assumption)) (by with_reducible assumption) (by omega) (by with_reducible assumption)] <;> rfl); done)
    | ((rw [ao_6 (by first | with_reducible assumption | exact prim_y (by first | with_reducible assumption | exact hs_y (by with_reducible assumption) (by with_reducible assumption)) (by with_reducible assumption)) (by with_reducible assumption) (by omega) (by with_reducible assumption) (by with_reducible assumption) (by omega)] <;> rfl); done)
    | ((rw [ao_5 (by first | with_reducible assumption | exact prim_y (by first | with_reducible assumption | exact hs_y (by with_reducible assumption) (by with_reducible assumption)) (by with_reducible assumption)) (by with_reducible assumption) (by omega) (by with_reducible assumption) (.inl (by with_reducible assumption)) (by omega)] <;> rfl); done)
    | ((rw [ao_5 (by first | with_reducible assumption | exact prim_y (by first | with_reducible assumption | exact hs_y (by with_reducible assumption) (by with_reducible assumption)) (by with_reducible assumption)) (by with_reducible assumption) (by omega) (by with_reducible assumption) (.inr (by omega)) (by omega)] <;> rfl); done)
    | ((rw [ao_y (by first | with_reducible assumption | exact prim_y (by first | with_reducible assumption | exact hs_y (by with_reducible assumption) (by with_reducible assumption)) (by with_reducible assumption)) (by with_reducible assumption) (by omega) (by with_reducible assumption) (.inl (by with_reducible assumption)) (by omega)] <;> rfl); done)
    | ((rw [ao_y (by first | with_reducible assumption | exact prim_y (by first | with_reducible assumption | exact hs_y (by with_reducible assumption) (by with_reducible assumption)) (by with_reducible assumption)) (by with_reducible assumption) (by omega) (by with_reducible assumption) (.inl (by with_reducible assumption)) (by omega)]; rw [List.getElem?_map, (by with_reducible assumption : c.srvs[id.toNat]? = some (at' c.srvs id.toNat))]; simp [setSrv, setLog, List.map_set, DE]); done)
    | ((rw [ao_y (by first | with_reducible assumption | exact prim_y (by first | with_reducible assumption | exact hs_y (by with_reducible assumption) (by with_reducible assumption)) (by with_reducible assumption)) (by with_reducible assumption) (by omega) (by with_reducible assumption) (.inr (by omega)) (by omega)] <;> rfl); done)
    | ((rw [ao_y (by first | with_reducible assumption | exact prim_y (by first | with_reducible assumption | exact hs_y (by with_reducible assumption) (by with_reducible assumption)) (by with_reducible assumption)) (by with_reducible assumption) (by omega) (by with_reducible assumption) (.inr (by omega)) (by omega)]; rw [List.getElem?_map, (by with_reducible assumption : c.srvs[id.toNat]? = some (at' c.srvs id.toNat))]; simp [setSrv, setLog, List.map_set, DE]); done)
    | ((rw [List.getElem?_map, (by with_reducible assumption : c.srvs[id.toNat]? = some (at' c.srvs id.toNat))]; simp; done); done)
    | (exact (CluB.at (by assumption) _); done)
    | fail)
theorem appOn_i (c : Clu) (id : Int) (o : ROp) (hB : CluB c) : Fn Go.Proofs.Tryz.prog 18 [.a (eClu false c), .c (.v (vi id)), .a (eROp o)] [.a [.d, .d, .d, .d, .d, .d, .d, .d, .d, .d], .c .d, .a [.d, .d, .d, .d, .d, .d]] [.a (eClu true ((appendOn c id o).1)), .c (.v (vi ((appendOn c id o).2)))] := by
  refine E.Fn.ev (n := 118) mdI false mix Go.Proofs.Tryz.func18 rfl (by simp [Go.Proofs.Tryz.f18]) Go.Proofs.Tryz.ntmps18 (by simp) (by kernel_rfl) (rs := [.cell 6 45, .tmp 7]) (tys := [45, 3]) rfl rfl (by simp [finOK, A.ts, OWN, ownE, ownT]) (by simp [resOK, A.ts, OWN, ownE, ownT, DE]) ?_
  simp only [go_sem]
  repeat' (first
    | simp only [IJS]
    | (refine E.CALL.use (copyU_i_B _ ?_) ?_ <;> (try simp only [go_sem]))
    | (refine E.CALL.use (hasSrv_i _ _ ?_) ?_ <;> (try simp only [go_sem]))
    | (refine E.CALL.use (validOp_i _) ?_ <;> (try simp only [go_sem]))
    | (refine E.CALL.use (primAt_i _ _ ?_) ?_ <;> (try simp only [go_sem]))
    | (refine E.CALL.use (findOp_i _ _ _ ?_) ?_ <;> (try simp only [go_sem]))
    | (refine E.CALL.use (replay_i _ ?_) ?_ <;> (try simp only [go_sem]))
    | (refine E.CALL.use (apply_i _ _ ?_) ?_ <;> (try simp only [go_sem]))
    | (refine E.CALL.use (isNew_i _) ?_ <;> (try simp only [go_sem]))
    | (refine E.CALL.use (groupFmt_i _ _ ?_) ?_ <;> (try simp only [go_sem]))
    | (refine E.GB.use (fun h => ?_) (fun h => ?_) <;> (simp only [go_sem, h]) <;> (try simp only [HFS] at h))
    | ((first | refine E.INDEP.soft1 1 14 4 20 1 (by kernel_rfl) rfl rfl rfl rfl ?_); simp only [go_sem, E.gh_eq, List.drop_succ_cons, List.drop_zero, List.take_succ_cons, List.take_zero])
    | (exact E.RSOK.mk (by kernel_rfl))
    | exact E.INDEP.mk2 (by kernel_rfl)
    | (refine E.IX_map ?_ (fun hx => ?_); rotate_left; simp only [go_sem])
    | (refine E.IX_setCell ?_ (fun hx => ?_); rotate_left; simp only [go_sem])
    | apply And.intro
    | omega
    | refine congrArg (List.map _) ?_
    | (have q := hasSrv_of (c := c) (id := id) (by first | with_reducible assumption | exact hs_y (by with_reducible assumption) (by with_reducible assumption)); omega; done)
    | (have q := primAt_log (c := c) (id := id) (by first | with_reducible assumption | exact prim_y (by first | with_reducible assumption | exact hs_y (by with_reducible assumption) (by with_reducible assumption)) (by with_reducible assumption)); omega; done)
    | (have q := primAt_log (c := c) (id := id) (by first | with_reducible assumption | exact prim_y (by first | with_reducible assumption | exact hs_y (by with_reducible assumption) (by with_reducible assumption)) (by with_reducible assumption)); have q2 := findOp_bd (at' c.srvs id.toNat).log o.client o.seq; omega; done)
    | (exact replay_B _ (by have q := primAt_log (c := c) (id := id) (by first | with_reducible assumption | exact prim_y (by first | with_reducible assumption | exact hs_y (by with_reducible assumption) (by with_reducible assumption)) (by with_reducible assumption)); omega); done)
    | ((rw [ao_1 (by with_reducible assumption)] <;> rfl); done)
    | ((rw [ao_1o (by with_reducible assumption)] <;> rfl); done)
    | ((rw [ao_2 (by first | with_reducible assumption | exact hs_y (by with_reducible assumption) (by with_reducible assumption)) (by with_reducible assumption) (by with_reducible assumption)] <;> rfl); done)
    | ((rw [ao_3 (by first | with_reducible assumption | exact hs_y (by with_reducible assumption) (by with_reducible assumption)) (by with_reducible assumption) (by with_reducible assumption) (by with_reducible assumption)] <;> rfl); done)
    | ((rw [ao_s (by first | with_reducible assumption | exact prim_y (by first | with_reducible assumption | exact hs_y (by with_reducible assumption) (by with_reducible assumption)) (by with_reducible assumption)) (by with_reducible assumption) (by omega) h] <;> rfl); done)
    | ((rw [ao_0 (by first | with_reducible assumption | exact prim_y (by first | with_reducible assumption | exact hs_y (by with_reducible assumption) (by with_reducible assumption)) (by with_reducible assumption)) (by with_reducible assumption) (by omega) h] <;> rfl); done)
    | ((rw [ao_f (by first | with_reducible assumption | exact prim_y (by first | with_reducible assumption | exact hs_y (by with_reducible assumption) (by with_reducible assumption)) (by with_reducible assumption)) (by with_reducible assumption) (by omega) (by with_reducible assumption)] <;> rfl); done)
    | ((rw [ao_6 (by first | with_reducible assumption | exact prim_y (by first | with_reducible assumption | exact hs_y (by with_reducible assumption) (by with_reducible assumption)) (by with_reducible assumption)) (by with_reducible assumption) (by omega) (by with_reducible assumption) (by with_reducible assumption) (by omega)] <;> rfl); done)
    | ((rw [ao_5 (by first | with_reducible assumption | exact prim_y (by first | with_reducible assumption | exact hs_y (by with_reducible assumption) (by with_reducible assumption)) (by with_reducible assumption)) (by with_reducible assumption) (by omega) (by with_reducible assumption) (.inl (by with_reducible assumption)) (by omega)] <;> rfl); done)
    | ((rw [ao_5 (by first | with_reducible assumption | exact prim_y (by first | with_reducible assumption | exact hs_y (by with_reducible assumption) (by with_reducible assumption)) (by with_reducible assumption)) (by with_reducible assumption) (by omega) (by with_reducible assumption) (.inr (by omega)) (by omega)] <;> rfl); done)
    | ((rw [ao_y (by first | with_reducible assumption | exact prim_y (by first | with_reducible assumption | exact hs_y (by with_reducible assumption) (by with_reducible assumption)) (by with_reducible assumption)) (by with_reducible assumption) (by omega) (by with_reducible assumption) (.inl (by with_reducible assumption)) (by omega)] <;> rfl); done)
    | ((rw [ao_y (by first | with_reducible assumption | exact prim_y (by first | with_reducible assumption | exact hs_y (by with_reducible assumption) (by with_reducible assumption)) (by with_reducible assumption)) (by with_reducible assumption) (by omega) (by with_reducible assumption) (.inl (by with_reducible assumption)) (by omega)]; rw [List.getElem?_map, (by with_reducible assumption : c.srvs[id.toNat]? = some (at' c.srvs id.toNat))]; simp [setSrv, setLog, List.map_set, DE]); done)
    | ((rw [ao_y (by first | with_reducible assumption | exact prim_y (by first | with_reducible assumption | exact hs_y (by with_reducible assumption) (by with_reducible assumption)) (by with_reducible assumption)) (by with_reducible assumption) (by omega) (by with_reducible assumption) (.inr (by omega)) (by omega)] <;> rfl); done)
    | ((rw [ao_y (by first | with_reducible assumption | exact prim_y (by first | with_reducible assumption | exact hs_y (by with_reducible assumption) (by with_reducible assumption)) (by with_reducible assumption)) (by with_reducible assumption) (by omega) (by with_reducible assumption) (.inr (by omega)) (by omega)]; rw [List.getElem?_map, (by with_reducible assumption : c.srvs[id.toNat]? = some (at' c.srvs id.toNat))]; simp [setSrv, setLog, List.map_set, DE]); done)
    | ((rw [List.getElem?_map, (by with_reducible assumption : c.srvs[id.toNat]? = some (at' c.srvs id.toNat))]; simp; done); done)
    | fail)
end
section
attribute [local go_sem] mdG_eq mdM toNat_pred setI List.length_set mdL_eq E.b_rem
theorem cutTail_s2 (l : List LEnt) (hl : l.length ≤ 1048576) : Fn Go.Proofs.Tryz.prog 168 [.c (.s false 7 (l.map eLEnt))] [.c .d] [.c (.v (vi ((cutTail l).1))), .c (.s true 7 (((cutTail l).2).map eLEnt))] := by
  refine E.Fn.ev (n := 13) mdL false mix Go.Proofs.Tryz.func168 rfl (by simp [Go.Proofs.Tryz.f168]) Go.Proofs.Tryz.ntmps168 (by simp) (by kernel_rfl) (rs := [.tmp 2, .tmp 3]) (tys := [3, 74]) rfl rfl (by simp [finOK, A.ts, OWN, ownE, ownT]) (by simp [resOK, A.ts, OWN, ownE, ownT, DE]) ?_
  simp only [go_sem]
  repeat' (first
    | simp only [IJS]
    | (refine E.CALL.use (cutTail_s _ ?_) ?_ <;> (try simp only [go_sem]))
    | omega
    | fail)
theorem pushTo_s (c : Clu) (id : Int) (m : Int) (hB : CluB c) : Fn Go.Proofs.Tryz.prog 134 [.a (eClu false c), .c (.v (vi id)), .c (.v (vi m))] [.a [.d, .d, .d, .d, .d, .d, .d, .d, .d, .d], .c .d, .c .d] [.a (eClu true ((pushTo c id m).1)), .c (.v (.bool ((pushTo c id m).2)))] := by
  refine E.Fn.ev (n := 74) mdL false mix Go.Proofs.Tryz.func134 rfl (by simp [Go.Proofs.Tryz.f134]) Go.Proofs.Tryz.ntmps134 (by simp) (by kernel_rfl) (rs := [.cell 6 45, .tmp 7]) (tys := [45, 4]) rfl rfl (by simp [finOK, A.ts, OWN, ownE, ownT]) (by simp [resOK, A.ts, OWN, ownE, ownT, DE]) ?_
  simp only [go_sem]
  repeat' (first
    | simp only [IJS]
    | (refine E.CALL.use (copyU_s_B _ ?_) ?_ <;> (try simp only [go_sem]))
    | (refine E.CALL.use (primAt_s _ _ ?_) ?_ <;> (try simp only [go_sem]))
    | (refine E.CALL.use (members_s_B _ ?_) ?_ <;> (try simp only [go_sem]))
    | (refine E.CALL.use (has_s _ _ ?_) ?_ <;> (try simp only [go_sem]))
    | (refine E.CALL.use (hears_s _ _ _ ?_ ?_ ?_) ?_ <;> (try simp only [go_sem]))
    | (refine E.CALL.use (role_s_B _ _ ?_) ?_ <;> (try simp only [go_sem]))
    | (refine E.CALL.use (cutTail_s2 _ ?_) ?_ <;> (try simp only [go_sem]))
    | (refine E.CALL.use (copyL_s _ ?_) ?_ <;> (try simp only [go_sem]))
    | (refine E.GB.use (fun h => ?_) (fun h => ?_) <;> (simp only [go_sem, h]) <;> (try simp only [HFS] at h))
    | ((first | refine E.INDEP.soft1 4 13 4 14 1 (by kernel_rfl) rfl rfl rfl rfl ?_); simp only [go_sem, E.gh_eq, List.drop_succ_cons, List.drop_zero, List.take_succ_cons, List.take_zero])
    | (exact E.RSOK.mk (by kernel_rfl))
    | exact E.INDEP.mk2 (by kernel_rfl)
    | (refine E.IX_map ?_ (fun hx => ?_); rotate_left; simp only [go_sem])
    | (refine E.IX_set ?_ ?_; rotate_left; simp only [go_sem])
    | apply And.intro
    | omega
    | refine congrArg (List.map _) ?_
    | (exact (primAt_of (by with_reducible assumption)).1; done)
    | (have q := primAt_log (c := c) (id := id) (by with_reducible assumption); omega; done)
    | (have q := members_len (at' c.srvs id.toNat).conf; omega; done)
    | (have q := role_in (members_c1 (c := (at' c.srvs id.toNat).conf) (m := m) (by with_reducible assumption)); have q2 := hasSrv_of (primAt_of (c := c) (id := id) (by with_reducible assumption)).1; omega; done)
    | (exact (CluB.at (by assumption) _).conf; done)
    | (rw [pushTo_n (c := c) (id := id) (m := m) (.inl (by with_reducible assumption))]; done)
    | (rw [pushTo_n (c := c) (id := id) (m := m) (.inr (.inl (members_c0 (by with_reducible assumption))))]; done)
    | (rw [pushTo_n (c := c) (id := id) (m := m) (.inr (.inr (by with_reducible assumption)))]; done)
    | (rw [pushTo_w (c := c) (id := id) (m := m) (by with_reducible assumption) (by with_reducible assumption) (by with_reducible assumption)]; done)
    | (rw [pushTo_w (c := c) (id := id) (m := m) (by with_reducible assumption) (by with_reducible assumption) (by with_reducible assumption)] <;> rfl; done)
    | (rw [pushTo_w (c := c) (id := id) (m := m) (by with_reducible assumption) (by with_reducible assumption) (by with_reducible assumption)]; simp [setSrv, setTail, srvAt, List.map_set, DE]; done)
    | (rw [pushTo_r (c := c) (id := id) (m := m) (by with_reducible assumption) (by first | with_reducible assumption | exact members_c1 (by with_reducible assumption)) (by with_reducible assumption) (by with_reducible assumption)]; done)
    | (rw [pushTo_r (c := c) (id := id) (m := m) (by with_reducible assumption) (by first | with_reducible assumption | exact members_c1 (by with_reducible assumption)) (by with_reducible assumption) (by with_reducible assumption)] <;> rfl; done)
    | (rw [pushTo_r (c := c) (id := id) (m := m) (by with_reducible assumption) (by first | with_reducible assumption | exact members_c1 (by with_reducible assumption)) (by with_reducible assumption) (by with_reducible assumption)]; simp [setSrv, setLog, srvAt, List.map_set, DE]; done)
    | fail)
theorem pushTo_i (c : Clu) (id : Int) (m : Int) (hB : CluB c) : Fn Go.Proofs.Tryz.prog 135 [.a (eClu false c), .c (.v (vi id)), .c (.v (vi m))] [.a [.d, .d, .d, .d, .d, .d, .d, .d, .d, .d], .c .d, .c .d] [.a (eClu true ((pushTo c id m).1)), .c (.v (.bool ((pushTo c id m).2)))] := by
  refine E.Fn.ev (n := 73) mdL false mix Go.Proofs.Tryz.func135 rfl (by simp [Go.Proofs.Tryz.f135]) Go.Proofs.Tryz.ntmps135 (by simp) (by kernel_rfl) (rs := [.cell 6 45, .tmp 7]) (tys := [45, 4]) rfl rfl (by simp [finOK, A.ts, OWN, ownE, ownT]) (by simp [resOK, A.ts, OWN, ownE, ownT, DE]) ?_
  simp only [go_sem]
  repeat' (first
    | simp only [IJS]
    | (refine E.CALL.use (copyU_i_B _ ?_) ?_ <;> (try simp only [go_sem]))
    | (refine E.CALL.use (primAt_i _ _ ?_) ?_ <;> (try simp only [go_sem]))
    | (refine E.CALL.use (role_i_B _ _ ?_) ?_ <;> (try simp only [go_sem]))
    | (refine E.CALL.use (hears_i _ _ _ ?_ ?_ ?_) ?_ <;> (try simp only [go_sem]))
    | (refine E.CALL.use (copyS_i_B _ ?_) ?_ <;> (try simp only [go_sem]))
    | (refine E.CALL.use (cutTail_i _ ?_) ?_ <;> (try simp only [go_sem]))
    | (refine E.GB.use (fun h => ?_) (fun h => ?_) <;> (simp only [go_sem, h]) <;> (try simp only [HFS] at h))
    | ((first | refine E.INDEP.soft1 4 13 4 14 1 (by kernel_rfl) rfl rfl rfl rfl ?_); simp only [go_sem, E.gh_eq, List.drop_succ_cons, List.drop_zero, List.take_succ_cons, List.take_zero])
    | (exact E.RSOK.mk (by kernel_rfl))
    | (refine E.IX_map ?_ (fun hx => ?_); rotate_left; simp only [go_sem])
    | (refine E.IX_set ?_ ?_; rotate_left; simp only [go_sem])
    | apply And.intro
    | omega
    | refine congrArg (List.map _) ?_
    | (have q := hasSrv_of (primAt_of (c := c) (id := id) (by with_reducible assumption)).1; have q2 := role_in (c := (at' c.srvs id.toNat).conf) (id := m) (by with_reducible assumption); omega; done)
    | (exact (primAt_of (by with_reducible assumption)).1; done)
    | (have q := primAt_log (c := c) (id := id) (by with_reducible assumption); omega; done)
    | (exact (CluB.at (by assumption) _); done)
    | (exact (CluB.at (by assumption) _).conf; done)
    | (rw [pushTo_n (c := c) (id := id) (m := m) (.inl (by with_reducible assumption))]; done)
    | (rw [pushTo_n (c := c) (id := id) (m := m) (.inr (.inl (by with_reducible assumption)))]; done)
    | (rw [pushTo_n (c := c) (id := id) (m := m) (.inr (.inr (by with_reducible assumption)))]; done)
    | (rw [pushTo_w (c := c) (id := id) (m := m) (by with_reducible assumption) (by with_reducible assumption) (by with_reducible assumption)]; done)
    | (rw [pushTo_w (c := c) (id := id) (m := m) (by with_reducible assumption) (by with_reducible assumption) (by with_reducible assumption)] <;> rfl; done)
    | (rw [pushTo_w (c := c) (id := id) (m := m) (by with_reducible assumption) (by with_reducible assumption) (by with_reducible assumption)]; simp [setSrv, setTail, srvAt, List.map_set, DE]; done)
    | (rw [pushTo_r (c := c) (id := id) (m := m) (by with_reducible assumption) (by first | with_reducible assumption | exact members_c1 (by with_reducible assumption)) (by with_reducible assumption) (by with_reducible assumption)]; done)
    | (rw [pushTo_r (c := c) (id := id) (m := m) (by with_reducible assumption) (by first | with_reducible assumption | exact members_c1 (by with_reducible assumption)) (by with_reducible assumption) (by with_reducible assumption)] <;> rfl; done)
    | (rw [pushTo_r (c := c) (id := id) (m := m) (by with_reducible assumption) (by first | with_reducible assumption | exact members_c1 (by with_reducible assumption)) (by with_reducible assumption) (by with_reducible assumption)]; simp [setSrv, setLog, srvAt, List.map_set, DE]; done)
    | fail)
end
end Go.Abs

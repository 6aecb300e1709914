/- Contracts of functions of the program, over the abstract machine, and facts for them. No condition. -/
import Derived.Test.YtandfgncjpgifaaGreatFacts
import Derived.Test.YtandfgncjpgifaaGreatPure19
import Derived.Test.YtandfgncjpgifaaGreatQ10
import Derived.Test.YtandfgncjpgifaaGreatQ16
import Derived.Test.YtandfgncjpgifaaGreatQ3
import Derived.Test.YtandfgncjpgifaaGreatQ31
import Derived.Test.YtandfgncjpgifaaGreatQ42
import Derived.Test.YtandfgncjpgifaaGreatQ6
import Derived.Test.YtandfgncjpgifaaGreatQ8
set_option linter.unusedVariables false
set_option linter.unusedSimpArgs false
set_option linter.unnecessarySimpa false
set_option linter.constructorNameAsVariable false
set_option maxHeartbeats 4000000
set_option maxRecDepth 100000
namespace Go.Abs
open Go
attribute [local go_sem ↓] E.argsA_h E.wq_ret E.wq_req E.wq_bad E.wq_call E.wq_get E.wq_getO E.wq_getOs E.wq_getPs E.wq_fresh E.wq_anyNil E.wq_getR0 E.wq_getR E.wq_ixM E.wq_n E.wq_g E.wq_gn E.ev_skip E.ev_region E.ev_draw E.ev_seq E.ev_cond E.ev_block E.ev_exit E.ev_ret E.sq_n E.sq_e E.sq_r E.bl_n E.bl_e E.bl_r E.lp_n E.lp_e E.lp_r E.fk_n E.fk_r E.q_move E.q_assign E.q_pick E.q_bin E.q_binw E.q_un E.q_alloc E.q_box E.q_build E.q_buildS E.q_makeS E.q_load E.q_store E.q_nilCheck E.q_slice E.q_fieldAddr E.q_field E.q_indexAddr E.q_extract E.q_makeFunc E.q_call E.q_callT E.q_len E.q_append E.q_min E.q_max E.q_convert E.q_cap E.q_clear appendIM appendZM E.b_add E.b_sub E.b_mul E.b_eql E.b_neq E.b_lss E.b_leq E.b_gtr E.b_geq E.GO_tmp E.GO_int E.GO_bool E.GO_str E.GO_nil E.GO_func E.GOs_nil E.GOs_cons E.GPs_nil E.GPs_cons E.RW_nil E.RW_cons E.dstAt_0 E.dstAt_s E.keepL_nil E.keepL_s E.keepL_k E.rmN_nil E.rmN_cons E.memN_nil E.memN_cons E.memK_nil E.memK_cons E.ovl_nil E.ovl_kk E.ovl_sk E.ovl_ks E.ovl_ss ofL_s ofL_sk ofL_ks ofL_k ofL_nil E.CO_tmp E.CO_bool
attribute [local go_sem] E.RM_nil E.RM_cons E.kd_k E.sbr_eq E.s3_nil E.s3_s E.s3_k E.vr_c E.vr_a E.vr_p E.vr_q E.vr_t E.vr_f E.vr_u E.cr_r E.cr_v E.cr_b E.cr_n E.cr_u E.crs_nil E.crs_cons E.renK_nil E.renK_cons keysVs V.keys C.keys keysCs E.RG_nil E.RG_cons E.GV_v E.GB_true E.GB_false E.GX_b E.GG_t E.GG_f E.GG_u E.GU_some E.IX_0 E.IX_s E.CX_s E.FR_none E.EN_e E.GVB_b E.b_boolM E.b_nilM E.b_strM E.b_aggM
attribute [local go_sem] List.cons_append List.nil_append List.append_nil List.length_cons List.length_nil List.length_map List.length_append callM E.argsH_nil E.argsH_cons E.argH_c E.argH_a E.argH_f E.cellsH_nil E.cellsH_cons E.cellH_v E.cellH_b E.cellH_n E.cellH_nt E.cellH_u E.cellH_rt E.cellH_rf capsA capA callable backs backT resVs resV resC tupV lenV intV boolV getE getO entryL entryKs A.ts entryV entryC entryCs entryCap List.map_cons List.map_nil E.cut_n E.cut_r E.cutM plainL A.capOK szEs szE szT SZ whole toB toC List.drop_zero List.take_zero List.take_succ_cons List.drop_succ_cons resultsM resultM outM outM1 convs conv finAs finA finT finTs Int.toNat_natCast A.plain T.plain List.isEmpty_nil List.isEmpty_cons Bool.or_true Bool.true_or Bool.and_self List.getElem?_cons_zero List.getElem?_cons_succ Option.bind_some Option.bind_none Option.bind Nat.zero_add Nat.add_zero OWN BOR ONE SCAL DE ETA E.take_rest Int.toNat_zero E.take_map E.drop_map E.take_len1 List.take_length E.app_map Int.natCast_zero Int.sub_zero Int.toNat_sub partCells V.cells convsL appendM srcM E.scalEs_nil E.scalEs_cons E.oneEs_nil E.oneEs_cons List.all_cons List.all_nil T.one Bool.and_true gone ownEs ownE ownT borEs borE borT setRow splice List.set_cons_zero List.set_cons_succ optI getOpt sliceM ptrTo app_ofL T.isV Value.oneCell' fillC zeroC spliceC allV eqVs eqV minV maxV setAt setCell holed List.dropLast List.getLast?_singleton Option.getD_some Option.isSome_some Option.isSome_none Bool.and_false Bool.true_and Bool.false_and Option.map_some Option.map_none false_or true_or or_true rowAt cellAt E.constV_nil E.constV_int E.constV_bool E.constV_str E.setCell_set E.setCell_len setRow setAt List.dropLast_cons_cons List.dropLast_singleton List.getLast?_cons_cons
attribute [local go_sem_proc ↓] reduceIte
attribute [local go_sem_proc] Nat.reduceEqDiff reduceCtorEq Nat.reduceAdd Nat.reduceMul
attribute [local irreducible] E.argsH E.argH E.cellsH E.cellH E.GV E.GB E.GX E.GG E.GU E.IX E.CX E.RW E.FR E.EN E.CALL E.GO E.GOs E.GPs E.GVB E.KD E.RM E.RG E.CO E.WQ E.EV E.SQ E.BL E.LP E.FK E.S3 E.RK E.NEXT E.NQ E.INDEP
section
attribute [local go_sem] mdG_eq mdM toNat_pred setI List.length_set mdL_eq E.b_rem
theorem witLog_s (c : Clu) (id : Int) (hB : CluB c) : Fn Go.Proofs.Tryz.prog 122 [.a (eClu false c), .c (.v (vi id))] [.a [.d, .d, .d, .d, .d, .d, .d, .d, .d, .d], .c .d] [.c (.s true 7 (((witLog c id).getD []).map eLEnt)), .c (.v (.bool ((witLog c id).isSome)))] := by
  refine E.Fn.ev (n := 121) mdL false mix Go.Proofs.Tryz.func122 rfl (by simp [Go.Proofs.Tryz.f122]) Go.Proofs.Tryz.ntmps122 (by simp) (by kernel_rfl) (rs := [.tmp 4, .tmp 5]) (tys := [64, 4]) rfl rfl (by simp [finOK, A.ts, OWN, ownE, ownT]) (by simp [resOK, A.ts, OWN, ownE, ownT, DE]) ?_
  simp only [go_sem]
  repeat' (first
    | simp only [IJS]
    | (refine E.CALL.use (lastAct_s_B _ ?_) ?_ <;> (try simp only [go_sem]))
    | (refine E.CALL.use (validClu_s_B _ ?_) ?_ <;> (try simp only [go_sem]))
    | (refine E.CALL.use (in_s _ _ _) ?_ <;> (try simp only [go_sem]))
    | (refine E.CALL.use (sameSide_s _ _ _ ?_) ?_ <;> (try simp only [go_sem]))
    | (refine E.CALL.use (comData_s _ _ ?_ ?_) ?_ <;> (try simp only [go_sem]))
    | (refine E.CALL.use (joinTail_s _ _ _ ?_ ?_) ?_ <;> (try simp only [go_sem]))
    | (refine E.GB.use (fun h => ?_) (fun h => ?_) <;> (simp only [go_sem, h]) <;> (try simp only [HFS] at h))
    | exact E.INDEP.mk2 (by kernel_rfl)
    | exact E.RK.mk (by kernel_rfl)
    | (refine E.IX_map ?_ (fun hx => ?_); rotate_left; simp only [go_sem])
    | (refine E.loopR (ι := Nat × Option (List LEnt)) 5 rfl (fun ⟨i, o⟩ => [(.s 10, .v (.c (.v (vi i)))), (.s 7, .v (.c (.v (.bool o.isSome)))), (.s 6, .v (.c (.r (15, 0) 0 [] 0 ((o.getD [])).length))), (.k (15, 0), .e ⟨0, 7, ((o.getD [])).map eLEnt⟩)]) [1, 2, 4, 5, 8, 9, 119, 120] [(15, 0)] [] (fun ⟨i, o⟩ => ((lastAct c.mast).1.wits).length - i) (fun ⟨i, o⟩ => i ≤ ((lastAct c.mast).1.wits).length ∧ WitO c id i o) mix (by kernel_rfl) (0, none) ?_ ?_ (fun ⟨i, o⟩ ⟨hi, hO⟩ => ?_); all_goals (try simp (maxSteps := 900000) only [go_sem]); all_goals (try dsimp only at hi hO))
    | (refine E.NEXT.use [] (i + 1, o) ?_ ?_ ?_; rotate_left 2; focus (simp (maxSteps := 900000) only [go_sem]; (repeat' (first | with_reducible rfl | exact E.RK.mk (by kernel_rfl) | apply And.intro | (push_cast; with_reducible rfl) | (refine E.int_c ?_; omega) | (simp only [go_sem]; done) | (rw [List.map_append]; rfl) | (simp; done) | (simp only [*]; done) | fail)); done))
    | (refine E.NEXT.use [] (i + 1, p) ?_ ?_ ?_; rotate_left 2; focus (simp (maxSteps := 900000) only [go_sem]; (repeat' (first | with_reducible rfl | exact E.RK.mk (by kernel_rfl) | apply And.intro | (push_cast; with_reducible rfl) | (refine E.int_c ?_; omega) | (simp only [go_sem]; done) | (rw [List.map_append]; rfl) | (simp; done) | (simp only [*]; done) | fail)); done))
    | (refine E.loopR (ι := Nat × Option (List LEnt)) 10 rfl (fun ⟨k, p⟩ => [(.s 12, .v (.c (.v (vi k)))), (.s 7, .v (.c (.v (.bool p.isSome)))), (.s 6, .v (.c (.r (15, 0) 0 [] 0 ((p.getD [])).length))), (.k (15, 0), .e ⟨0, 7, ((p.getD [])).map eLEnt⟩)]) [1, 2, 4, 5, 8, 9, 10, 11, 22, 23, 24, 25, 26, 27, 28, 29, 30, 31, 32, 33, 34, 35, 36, 37, 38, 39, 40, 41, 42, 43, 44, 45, 46, 47, 48, 49, 50, 51, 52, 53, 54, 55, 56, 57, 58, 59, 60, 61, 62, 63, 64, 65, 66, 67, 68, 69, 70, 71, 119, 120] [(15, 0)] [] (fun ⟨k, p⟩ => 5 - k) (fun ⟨k, p⟩ => k ≤ 5 ∧ WitK c id (at' c.srvs (at' ((lastAct c.mast).1.wits) i).toNat) (witIn c id (at' c.srvs (at' ((lastAct c.mast).1.wits) i).toNat) 0 c.srvs o) k p) mix (by kernel_rfl) (0, o) ?_ ?_ (fun ⟨k, p⟩ ⟨hk, hK⟩ => ?_); all_goals (try simp (maxSteps := 900000) only [go_sem]); all_goals (try dsimp only at hk hK))
    | (refine E.NEXT.use [] (k + 1, p) ?_ ?_ ?_; rotate_left 2; focus (simp (maxSteps := 900000) only [go_sem]; (repeat' (first | with_reducible rfl | exact E.RK.mk (by kernel_rfl) | apply And.intro | (push_cast; with_reducible rfl) | (refine E.int_c ?_; omega) | (simp only [go_sem]; done) | (rw [List.map_append]; rfl) | (simp; done) | (simp only [*]; done) | fail)); done))
    | (refine E.NEXT.use [((15, 0), (103, 0))] (k + 1, some ((joinTail (comData (at' c.srvs k) k) (at' c.srvs (at' ((lastAct c.mast).1.wits) i).toNat).first (at' c.srvs (at' ((lastAct c.mast).1.wits) i).toNat).log).getD [])) ?_ ?_ ?_; rotate_left 2; focus (simp (maxSteps := 900000) only [go_sem]; (repeat' (first | with_reducible rfl | exact E.RK.mk (by kernel_rfl) | apply And.intro | (push_cast; with_reducible rfl) | (refine E.int_c ?_; omega) | (simp only [go_sem]; done) | (rw [List.map_append]; rfl) | (simp; done) | (simp only [*]; done) | fail)); done))
    | apply And.intro
    | omega
    | refine congrArg (List.map _) ?_
    | (have q := (la_len c.mast).2; omega; done)
    | (have q := conf_wit (lastAct_of (m := c.mast) (by assumption)).2.2.2.1 (E.at_mem (l := (lastAct c.mast).1.wits) (i := i) (by omega)); have q2 := validClu_of (c := c) (by assumption); omega; done)
    | (exact srv_cvn (by with_reducible assumption) (by omega); done)
    | (have q := conf_wit (lastAct_of (m := c.mast) (by assumption)).2.2.2.1 (E.at_mem (l := (lastAct c.mast).1.wits) (i := i) (by omega)); have q2 := hasSrv_of (c := c) (id := id) (by first | with_reducible assumption | exact has_mk (by with_reducible assumption) (by with_reducible assumption)); omega; done)
    | (exact .start c id; done)
    | (exact .start hO; done)
    | (exact hO.no (by omega) (he_n1 (by with_reducible assumption)); done)
    | (exact hO.no (by omega) (he_n2 (by with_reducible assumption)); done)
    | (exact hO.no (by omega) (he_n3 (by with_reducible assumption)); done)
    | (exact hO.yes (by omega) (by with_reducible assumption) (by first | with_reducible assumption | exact has_mk (by with_reducible assumption) (by with_reducible assumption)) (by first | with_reducible assumption | exact he_y (by with_reducible assumption) (by with_reducible assumption) (by with_reducible assumption)) hK (by omega); done)
    | (exact hK.no (by have q := hasSrv_of (c := c) (id := id) (by first | with_reducible assumption | exact has_mk (by with_reducible assumption) (by with_reducible assumption)); omega) (.inl (by with_reducible assumption)); done)
    | (exact hK.no (by have q := hasSrv_of (c := c) (id := id) (by first | with_reducible assumption | exact has_mk (by with_reducible assumption) (by with_reducible assumption)); omega) (.inr (.inl (by with_reducible assumption))); done)
    | (exact hK.no (by have q := hasSrv_of (c := c) (id := id) (by first | with_reducible assumption | exact has_mk (by with_reducible assumption) (by with_reducible assumption)); omega) (.inr (.inr (by with_reducible assumption))); done)
    | (exact hK.yes (by have q := hasSrv_of (c := c) (id := id) (by first | with_reducible assumption | exact has_mk (by with_reducible assumption) (by with_reducible assumption)); omega) (by with_reducible assumption) (by with_reducible assumption) (by with_reducible assumption) (.inl (by with_reducible assumption)); done)
    | (exact hK.yes (by have q := hasSrv_of (c := c) (id := id) (by first | with_reducible assumption | exact has_mk (by with_reducible assumption) (by with_reducible assumption)); omega) (by with_reducible assumption) (by with_reducible assumption) (by with_reducible assumption) (.inr (by omega)); done)
    | (exact hK.keep (by have q := hasSrv_of (c := c) (id := id) (by first | with_reducible assumption | exact has_mk (by with_reducible assumption) (by with_reducible assumption)); omega) (by with_reducible assumption) (by omega); done)
    | (rw [hO.fin (by omega)]; done)
    | (rw [hO.out (.inl (by with_reducible assumption))]; done)
    | (rw [hO.out (.inr (.inl (by with_reducible assumption)))]; done)
    | (rw [hO.out (.inr (.inr (by with_reducible assumption)))]; done)
    | (exact Nat.le_trans (comData_len _ _ (CluB.at hB _)) (by decide); done)
    | (exact (CluB.at (by assumption) _); done)
    | (exact (CluB.at (by assumption) _).log; done)
    | (exact CluB.m (by assumption); done)
    | (rfl; done)
    | fail)
theorem witLog_i (c : Clu) (id : Int) (hB : CluB c) : Fn Go.Proofs.Tryz.prog 145 [.a (eClu false c), .c (.v (vi id))] [.a [.d, .d, .d, .d, .d, .d, .d, .d, .d, .d], .c .d] [.c (.s true 7 (((witLog c id).getD []).map eLEnt)), .c (.v (.bool ((witLog c id).isSome)))] := by
  refine E.Fn.ev (n := 99) mdL false mix Go.Proofs.Tryz.func145 rfl (by simp [Go.Proofs.Tryz.f145]) Go.Proofs.Tryz.ntmps145 (by simp) (by kernel_rfl) (rs := [.tmp 4, .tmp 5]) (tys := [64, 4]) rfl rfl (by simp [finOK, A.ts, OWN, ownE, ownT]) (by simp [resOK, A.ts, OWN, ownE, ownT, DE]) ?_
  simp only [go_sem]
  repeat' (first
    | simp only [IJS]
    | (refine E.CALL.use (lastAct_i_B _ ?_) ?_ <;> (try simp only [go_sem]))
    | (refine E.CALL.use (hasSrv_i _ _ ?_) ?_ <;> (try simp only [go_sem]))
    | (refine E.CALL.use (hasEp_i _ _ _ _ ?_ ?_ ?_) ?_ <;> (try simp only [go_sem]))
    | (refine E.CALL.use (sameSide_i _ _ _ ?_) ?_ <;> (try simp only [go_sem]))
    | (refine E.CALL.use (comData_i _ _ ?_) ?_ <;> (try simp only [go_sem]))
    | (refine E.CALL.use (joinTail_i _ _ _ ?_ ?_) ?_ <;> (try simp only [go_sem]))
    | (refine E.GB.use (fun h => ?_) (fun h => ?_) <;> (simp only [go_sem, h]) <;> (try simp only [HFS] at h))
    | exact E.INDEP.mk2 (by kernel_rfl)
    | exact E.RK.mk (by kernel_rfl)
    | (refine E.IX_map ?_ (fun hx => ?_); rotate_left; simp only [go_sem])
    | (refine E.loopR (ι := Nat × Option (List LEnt)) 6 rfl (fun ⟨i, o⟩ => [(.s 35, .v (.c (.v (vi i)))), (.s 9, .v (.c (.v (.bool o.isSome)))), (.s 8, .v (.c (.r (31, 0) 0 [] 0 ((o.getD [])).length))), (.k (31, 0), .e ⟨0, 7, ((o.getD [])).map eLEnt⟩)]) [1, 2, 4, 5, 6, 33, 34, 96, 97, 98] [(31, 0)] [] (fun ⟨i, o⟩ => ((lastAct c.mast).1.wits).length - i) (fun ⟨i, o⟩ => i ≤ ((lastAct c.mast).1.wits).length ∧ WitO c id i o) mix (by kernel_rfl) (0, none) ?_ ?_ (fun ⟨i, o⟩ ⟨hi, hO⟩ => ?_); all_goals (try simp (maxSteps := 900000) only [go_sem]); all_goals (try dsimp only at hi hO))
    | (refine E.NEXT.use [] (i + 1, o) ?_ ?_ ?_; rotate_left 2; focus (simp (maxSteps := 900000) only [go_sem]; (repeat' (first | with_reducible rfl | exact E.RK.mk (by kernel_rfl) | apply And.intro | (push_cast; with_reducible rfl) | (refine E.int_c ?_; omega) | (simp only [go_sem]; done) | (rw [List.map_append]; rfl) | (simp; done) | (simp only [*]; done) | fail)); done))
    | (refine E.NEXT.use [] (i + 1, p) ?_ ?_ ?_; rotate_left 2; focus (simp (maxSteps := 900000) only [go_sem]; (repeat' (first | with_reducible rfl | exact E.RK.mk (by kernel_rfl) | apply And.intro | (push_cast; with_reducible rfl) | (refine E.int_c ?_; omega) | (simp only [go_sem]; done) | (rw [List.map_append]; rfl) | (simp; done) | (simp only [*]; done) | fail)); done))
    | (refine E.loopR (ι := Nat × Option (List LEnt)) 11 rfl (fun ⟨k, p⟩ => [(.s 54, .v (.c (.v (vi k)))), (.s 9, .v (.c (.v (.bool p.isSome)))), (.s 8, .v (.c (.r (31, 0) 0 [] 0 ((p.getD [])).length))), (.k (31, 0), .e ⟨0, 7, ((p.getD [])).map eLEnt⟩)]) [1, 2, 4, 5, 6, 11, 12, 33, 34, 35, 36, 37, 38, 39, 40, 41, 42, 43, 44, 45, 46, 47, 48, 49, 50, 51, 52, 53, 95, 96, 97, 98] [(31, 0)] [] (fun ⟨k, p⟩ => 5 - k) (fun ⟨k, p⟩ => k ≤ 5 ∧ WitK c id (at' c.srvs (at' ((lastAct c.mast).1.wits) i).toNat) (witIn c id (at' c.srvs (at' ((lastAct c.mast).1.wits) i).toNat) 0 c.srvs o) k p) mix (by kernel_rfl) (0, o) ?_ ?_ (fun ⟨k, p⟩ ⟨hk, hK⟩ => ?_); all_goals (try simp (maxSteps := 900000) only [go_sem]); all_goals (try dsimp only at hk hK))
    | (refine E.NEXT.use [] (k + 1, p) ?_ ?_ ?_; rotate_left 2; focus (simp (maxSteps := 900000) only [go_sem]; (repeat' (first | with_reducible rfl | exact E.RK.mk (by kernel_rfl) | apply And.intro | (push_cast; with_reducible rfl) | (refine E.int_c ?_; omega) | (simp only [go_sem]; done) | (rw [List.map_append]; rfl) | (simp; done) | (simp only [*]; done) | fail)); done))
    | (refine E.NEXT.use [((31, 0), (78, 0))] (k + 1, some ((joinTail (comData (at' c.srvs k) k) (at' c.srvs (at' ((lastAct c.mast).1.wits) i).toNat).first (at' c.srvs (at' ((lastAct c.mast).1.wits) i).toNat).log).getD [])) ?_ ?_ ?_; rotate_left 2; focus (simp (maxSteps := 900000) only [go_sem]; (repeat' (first | with_reducible rfl | exact E.RK.mk (by kernel_rfl) | apply And.intro | (push_cast; with_reducible rfl) | (refine E.int_c ?_; omega) | (simp only [go_sem]; done) | (rw [List.map_append]; rfl) | (simp; done) | (simp only [*]; done) | fail)); done))
    | apply And.intro
    | omega
    | refine congrArg (List.map _) ?_
    | (have q := (la_len c.mast).2; omega; done)
    | (have q2 := hasSrv_of (c := c) (id := id) (by assumption); omega; done)
    | (have q := conf_wit (lastAct_of (m := c.mast) (by assumption)).2.2.2.1 (E.at_mem (l := (lastAct c.mast).1.wits) (i := i) (by omega)); omega; done)
    | (have q := conf_wit (lastAct_of (m := c.mast) (by assumption)).2.2.2.1 (E.at_mem (l := (lastAct c.mast).1.wits) (i := i) (by omega)); have q2 := hasSrv_of (c := c) (id := id) (by first | with_reducible assumption | exact has_mk (by with_reducible assumption) (by with_reducible assumption)); omega; done)
    | (exact .start c id; done)
    | (exact .start hO; done)
    | (exact hO.no (by omega) (by with_reducible assumption); done)
    | (exact hO.yes (by omega) (by with_reducible assumption) (by first | with_reducible assumption | exact has_mk (by with_reducible assumption) (by with_reducible assumption)) (by first | with_reducible assumption | exact he_y (by with_reducible assumption) (by with_reducible assumption) (by with_reducible assumption)) hK (by have q := hasSrv_of (c := c) (id := id) (by first | with_reducible assumption | exact has_mk (by with_reducible assumption) (by with_reducible assumption)); omega); done)
    | (exact hK.no (by have q := hasSrv_of (c := c) (id := id) (by first | with_reducible assumption | exact has_mk (by with_reducible assumption) (by with_reducible assumption)); omega) (.inl (by with_reducible assumption)); done)
    | (exact hK.no (by have q := hasSrv_of (c := c) (id := id) (by first | with_reducible assumption | exact has_mk (by with_reducible assumption) (by with_reducible assumption)); omega) (.inr (.inl (by with_reducible assumption))); done)
    | (exact hK.no (by have q := hasSrv_of (c := c) (id := id) (by first | with_reducible assumption | exact has_mk (by with_reducible assumption) (by with_reducible assumption)); omega) (.inr (.inr (by with_reducible assumption))); done)
    | (exact hK.yes (by have q := hasSrv_of (c := c) (id := id) (by first | with_reducible assumption | exact has_mk (by with_reducible assumption) (by with_reducible assumption)); omega) (by with_reducible assumption) (by with_reducible assumption) (by with_reducible assumption) (.inl (by with_reducible assumption)); done)
    | (exact hK.yes (by have q := hasSrv_of (c := c) (id := id) (by first | with_reducible assumption | exact has_mk (by with_reducible assumption) (by with_reducible assumption)); omega) (by with_reducible assumption) (by with_reducible assumption) (by with_reducible assumption) (.inr (by omega)); done)
    | (exact hK.keep (by have q := hasSrv_of (c := c) (id := id) (by first | with_reducible assumption | exact has_mk (by with_reducible assumption) (by with_reducible assumption)); omega) (by with_reducible assumption) (by omega); done)
    | (rw [hO.fin (by omega)]; done)
    | ((have q := hO.fin (by omega); rw [← q, opt_n (by with_reducible assumption)]; rfl); done)
    | ((have q := hO.fin (by omega); rw [← q]; symm; assumption); done)
    | ((rw [witLog_n (.inl (by with_reducible assumption))] <;> rfl); done)
    | ((rw [witLog_n (.inr (by with_reducible assumption))] <;> rfl); done)
    | (exact Nat.le_trans (comData_len _ _ (CluB.at hB _)) (by decide); done)
    | (exact (CluB.at (by assumption) _); done)
    | (exact (CluB.at (by assumption) _).log; done)
    | (exact CluB.m (by assumption); done)
    | (rfl; done)
    | fail)
end
section
attribute [local go_sem] mdG_eq mdM toNat_pred setI List.length_set mdL_eq E.b_rem
theorem srcLog_s (c : Clu) (id : Int) (hB : CluB c) : Fn Go.Proofs.Tryz.prog 35 [.a (eClu false c), .c (.v (vi id))] [.a [.d, .d, .d, .d, .d, .d, .d, .d, .d, .d], .c .d] [.c (.s true 7 (((srcLog c id).getD []).map eLEnt)), .c (.v (.bool ((srcLog c id).isSome)))] := by
  refine E.Fn.ev (n := 43) mdL false mix Go.Proofs.Tryz.func35 rfl (by simp [Go.Proofs.Tryz.f35]) Go.Proofs.Tryz.ntmps35 (by simp) (by kernel_rfl) (rs := [.tmp 4, .tmp 5]) (tys := [64, 4]) rfl rfl (by simp [finOK, A.ts, OWN, ownE, ownT]) (by simp [resOK, A.ts, OWN, ownE, ownT, DE]) ?_
  simp only [go_sem]
  repeat' (first
    | simp only [IJS]
    | (refine E.CALL.use (validClu_s_B _ ?_) ?_ <;> (try simp only [go_sem]))
    | (refine E.CALL.use (in_s _ _ _) ?_ <;> (try simp only [go_sem]))
    | (refine E.CALL.use (bestSrc_s _ _ ?_) ?_ <;> (try simp only [go_sem]))
    | (refine E.CALL.use (copyL_s _ ?_) ?_ <;> (try simp only [go_sem]))
    | (refine E.CALL.use (witLog_s _ _ ?_) ?_ <;> (try simp only [go_sem]))
    | (refine E.GB.use (fun h => ?_) (fun h => ?_) <;> (simp only [go_sem, h]) <;> (try simp only [HFS] at h))
    | (refine E.IX_map ?_ (fun hx => ?_); rotate_left; simp only [go_sem])
    | apply And.intro
    | omega
    | refine congrArg (List.map _) ?_
    | (have q := best_in (c := c) (id := id) (by omega); omega; done)
    | (exact (CluB.at (by assumption) _).log; done)
    | (rw [srcLog_w (by first | assumption | simp [hasSrv, *]) (by assumption) (by assumption)]; done)
    | (simp [srcLog, hasSrv, srvAt, *]; done)
    | fail)
theorem srcLog_i (c : Clu) (id : Int) (hB : CluB c) : Fn Go.Proofs.Tryz.prog 51 [.a (eClu false c), .c (.v (vi id))] [.a [.d, .d, .d, .d, .d, .d, .d, .d, .d, .d], .c .d] [.c (.s true 7 (((srcLog c id).getD []).map eLEnt)), .c (.v (.bool ((srcLog c id).isSome)))] := by
  refine E.Fn.ev (n := 33) mdL false mix Go.Proofs.Tryz.func51 rfl (by simp [Go.Proofs.Tryz.f51]) Go.Proofs.Tryz.ntmps51 (by simp) (by kernel_rfl) (rs := [.tmp 4, .tmp 5]) (tys := [64, 4]) rfl rfl (by simp [finOK, A.ts, OWN, ownE, ownT]) (by simp [resOK, A.ts, OWN, ownE, ownT, DE]) ?_
  simp only [go_sem]
  repeat' (first
    | simp only [IJS]
    | (refine E.CALL.use (hasSrv_i _ _ ?_) ?_ <;> (try simp only [go_sem]))
    | (refine E.CALL.use (bestSrc_i _ _ ?_) ?_ <;> (try simp only [go_sem]))
    | (refine E.CALL.use (cloneE_c _ ?_) ?_ <;> (try simp only [go_sem]))
    | (refine E.CALL.use (witLog_i _ _ ?_) ?_ <;> (try simp only [go_sem]))
    | (refine E.GB.use (fun h => ?_) (fun h => ?_) <;> (simp only [go_sem, h]) <;> (try simp only [HFS] at h))
    | (refine E.IX_map ?_ (fun hx => ?_); rotate_left; simp only [go_sem])
    | apply And.intro
    | omega
    | refine congrArg (List.map _) ?_
    | (have q := best_in (c := c) (id := id) (by omega); omega; done)
    | (exact (CluB.at (by assumption) _).log; done)
    | (rw [srcLog_w (by first | assumption | simp [hasSrv, *]) (by assumption) (by assumption)]; done)
    | (simp [srcLog, srvAt, *]; done)
    | fail)
end
section
attribute [local go_sem] mdG_eq mdM toNat_pred setI List.length_set mdL_eq E.b_rem
theorem racks_s (l : List Plc) (ms : List Int) (hl : l.length ≤ 1048576) (hm : ms.length ≤ 12) : Fn Go.Proofs.Tryz.prog 218 [.c (.s false 3 (l.map ePlc)), .c (.s false 1 (ms.map eInt))] [.c .d, .c .d] [.c (.s true 1 ((racksOf l ms).map eInt))] := by
  refine E.Fn.ev (n := 33) mdL false mix Go.Proofs.Tryz.func218 rfl (by simp [Go.Proofs.Tryz.f218]) Go.Proofs.Tryz.ntmps218 (by simp) (by kernel_rfl) (rs := [.tmp 4]) (tys := [23]) rfl rfl (by simp [finOK, A.ts, OWN, ownE, ownT]) (by simp [resOK, A.ts, OWN, ownE, ownT, DE]) ?_
  simp only [go_sem]
  repeat' (first
    | simp only [IJS]
    | (refine E.CALL.use (arePlc_s _ ?_) ?_ <;> (try simp only [go_sem]))
    | (refine E.CALL.use (areSrv_s _ ?_) ?_ <;> (try simp only [go_sem]))
    | (refine E.CALL.use (put_s _ _ ?_) ?_ <;> (try simp only [go_sem]))
    | (refine E.GB.use (fun h => ?_) (fun h => ?_) <;> (simp only [go_sem, h]) <;> (try simp only [HFS] at h))
    | exact E.RK.mk (by kernel_rfl)
    | (refine E.IX_map ?_ (fun hx => ?_); rotate_left; simp only [go_sem])
    | (refine E.loopR (ι := Nat × List Int) 3 rfl (fun ⟨i, out⟩ => [(.s 6, .v (.c (.v (vi i)))), (.s 5, .v (.c (.r (7, 0) 0 [] 0 (out).length))), (.k (7, 0), .e ⟨0, 1, (out).map eInt⟩)]) [0, 1, 4, 32] [(7, 0)] [] (fun ⟨i, out⟩ => ms.length - i) (fun ⟨i, out⟩ => i ≤ ms.length ∧ out.length ≤ i ∧ (if arePlaces l && areServers ms then ((ms.drop i).map (fun id : Int => (at' l id.toNat).rack)).foldl putI out else out) = racksOf l ms ∧ ((arePlaces l && areServers ms) = false → out = [])) mix (by kernel_rfl) (0, []) ?_ ?_ (fun ⟨i, out⟩ ⟨hi, ho, hR, hN⟩ => ?_); all_goals (try simp (maxSteps := 900000) only [go_sem]); all_goals (try dsimp only at hi ho hR hN))
    | (refine E.NEXT.use [((7, 0), (31, 0))] (i + 1, putI out (at' l (at' ms i).toNat).rack) ?_ ?_ ?_; rotate_left 2; focus (simp (maxSteps := 900000) only [go_sem]; (repeat' (first | with_reducible rfl | exact E.RK.mk (by kernel_rfl) | apply And.intro | (push_cast; with_reducible rfl) | (refine E.int_c ?_; omega) | (simp only [go_sem]; done) | (rw [List.map_append]; rfl) | (simp; done) | (simp only [*]; done) | fail)); done))
    | apply And.intro
    | omega
    | refine congrArg (List.map _) ?_
    | (have q := srv_at (ms := ms) (by assumption) (i := i) (by omega); have q2 := arePlaces_len (l := l) (by assumption); omega; done)
    | (have := putI_len out (at' l (at' ms i).toNat).rack; omega; done)
    | (rw [drop_at (l := ms) (i := i) (by omega)] at hR; simp only [List.map_cons, List.foldl_cons, *] at hR; simpa [*] using hR; done)
    | (rw [E.drop_end (l := ms) (i := i) (by omega)] at hR; simpa using hR; done)
    | (simp [racksOf, puts]; done)
    | fail)
theorem racks_i (l : List Plc) (ms : List Int) (hl : l.length ≤ 1048576) (hm : ms.length ≤ 12) : Fn Go.Proofs.Tryz.prog 223 [.c (.s false 3 (l.map ePlc)), .c (.s false 1 (ms.map eInt))] [.c .d, .c .d] [.c (.s true 1 ((racksOf l ms).map eInt))] := by
  refine E.Fn.ev (n := 35) mdL false mix Go.Proofs.Tryz.func223 rfl (by simp [Go.Proofs.Tryz.f223]) Go.Proofs.Tryz.ntmps223 (by simp) (by kernel_rfl) (rs := [.tmp 4]) (tys := [23]) rfl rfl (by simp [finOK, A.ts, OWN, ownE, ownT]) (by simp [resOK, A.ts, OWN, ownE, ownT, DE]) ?_
  simp only [go_sem]
  repeat' (first
    | simp only [IJS]
    | (refine E.CALL.use (arePlc_i _ ?_) ?_ <;> (try simp only [go_sem]))
    | (refine E.CALL.use (areSrv_i _ ?_) ?_ <;> (try simp only [go_sem]))
    | (refine E.CALL.use (asc_c _ ?_) ?_ <;> (try simp only [go_sem]))
    | (refine E.GB.use (fun h => ?_) (fun h => ?_) <;> (simp only [go_sem, h]) <;> (try simp only [HFS] at h))
    | exact E.RK.mk (by kernel_rfl)
    | (refine E.IX_map ?_ (fun hx => ?_); rotate_left; simp only [go_sem])
    | (refine E.loopR (ι := Nat × List Int) 5 rfl (fun ⟨i, out⟩ => [(.s 20, .v (.c (.v (vi i)))), (.s 5, .v (.c (.r (8, 0) 0 [] 0 (out).length))), (.k (8, 0), .e ⟨0, 1, (out).map eInt⟩)]) [0, 4, 18, 19, 33, 34] [(8, 0)] [] (fun ⟨i, out⟩ => ms.length - i) (fun ⟨i, out⟩ => i ≤ ms.length ∧ out.length ≤ i ∧ out ++ (ms.drop i).map (fun id : Int => (at' l id.toNat).rack) = ms.map (fun id : Int => (at' l id.toNat).rack)) mix (by kernel_rfl) (0, []) ?_ ?_ (fun ⟨i, out⟩ ⟨hi, ho, hR⟩ => ?_); all_goals (try simp (maxSteps := 900000) only [go_sem]); all_goals (try dsimp only at hi ho hR))
    | (refine E.NEXT.use [((8, 0), (31, 0))] (i + 1, out ++ [(at' l (at' ms i).toNat).rack]) ?_ ?_ ?_; rotate_left 2; focus (simp (maxSteps := 900000) only [go_sem]; (repeat' (first | with_reducible rfl | exact E.RK.mk (by kernel_rfl) | apply And.intro | (push_cast; with_reducible rfl) | (refine E.int_c ?_; omega) | (simp only [go_sem]; done) | (rw [List.map_append]; rfl) | (simp; done) | (simp only [*]; done) | fail)); done))
    | apply And.intro
    | omega
    | (simp only [List.length_take, List.length_drop, List.length_append, List.length_set, List.length_cons, List.length_nil]; omega)
    | refine congrArg (List.map _) ?_
    | (have q := srv_at (ms := ms) (by assumption) (i := i) (by omega); have q2 := arePlaces_len (l := l) (by assumption); omega; done)
    | (rw [drop_at (l := ms) (i := i) (by omega)] at hR; simp only [List.map_cons] at hR; simpa using hR; done)
    | (rw [E.drop_end (l := ms) (i := i) (by omega)] at hR; simp only [List.map_nil, List.append_nil] at hR; rw [hR, racks_y (by assumption) (by assumption)]; done)
    | (rw [racks_n (.inl (by assumption))] <;> rfl; done)
    | (rw [racks_n (.inr (by assumption))] <;> rfl; done)
    | fail)
theorem better_s (l : List Plc) (r : List Int) (a : Int) (b : Int) (hl : l.length = 5) (hr : r.length ≤ 1048576) (ha : 0 ≤ a ∧ a ≤ 4) (hb : 0 ≤ b ∧ b ≤ 4) : Fn Go.Proofs.Tryz.prog 220 [.c (.s false 3 (l.map ePlc)), .c (.s false 1 (r.map eInt)), .c (.v (vi a)), .c (.v (vi b))] [.c .d, .c .d, .c .d, .c .d] [.c (.v (.bool (better l r a b)))] := by
  refine E.Fn.ev (n := 40) mdL false mix Go.Proofs.Tryz.func220 rfl (by simp [Go.Proofs.Tryz.f220]) Go.Proofs.Tryz.ntmps220 (by simp) (by kernel_rfl) (rs := [.tmp 8]) (tys := [4]) rfl rfl (by simp [finOK, A.ts, OWN, ownE, ownT]) (by simp [resOK, A.ts, OWN, ownE, ownT, DE]) ?_
  simp only [go_sem]
  repeat' (first
    | simp only [IJS]
    | (refine E.CALL.use (has_s _ _ ?_) ?_ <;> (try simp only [go_sem]))
    | (refine E.GB.use (fun h => ?_) (fun h => ?_) <;> (simp only [go_sem, h]) <;> (try simp only [HFS] at h))
    | exact E.INDEP.mk2 (by kernel_rfl)
    | (refine E.IX_map ?_ (fun hx => ?_); rotate_left; simp only [go_sem])
    | apply And.intro
    | omega
    | (unfold better; dsimp only; rw [if_pos (by assumption)]; done)
    | (unfold better; dsimp only; rw [if_neg (by assumption)]; done)
    | fail)
theorem spare_s_c (l : List Plc) (ms : List Int) (av : List Int) (hl : l.length ≤ 1048576) (hm : ms.length ≤ 12) (hv : av.length ≤ 1048576) : Fn Go.Proofs.Tryz.prog 164 [.c (.s false 3 (l.map ePlc)), .c (.s false 1 (ms.map eInt)), .c (.s false 1 (av.map eInt))] [.c .d, .c .d, .c .d] [.c (.v (vi (spare l ms av)))] := by
  refine E.Fn.ev (n := 46) mdL false mix Go.Proofs.Tryz.func164 rfl (by simp [Go.Proofs.Tryz.f164]) Go.Proofs.Tryz.ntmps164 (by simp) (by kernel_rfl) (rs := [.tmp 6]) (tys := [3]) rfl rfl (by simp [finOK, A.ts, OWN, ownE, ownT]) (by simp [resOK, A.ts, OWN, ownE, ownT, DE]) ?_
  simp only [go_sem]
  repeat' (first
    | simp only [IJS]
    | (refine E.CALL.use (racks_s _ _ ?_ ?_) ?_ <;> (try simp only [go_sem]))
    | (refine E.CALL.use (areSrv_s _ ?_) ?_ <;> (try simp only [go_sem]))
    | (refine E.CALL.use (hasRoom_s _ _ ?_) ?_ <;> (try simp only [go_sem]))
    | (refine E.CALL.use (has_s _ _ ?_) ?_ <;> (try simp only [go_sem]))
    | (refine E.CALL.use (better_s _ _ _ _ ?_ ?_ ?_ ?_) ?_ <;> (try simp only [go_sem]))
    | (refine E.GB.use (fun h => ?_) (fun h => ?_) <;> (simp only [go_sem, h]) <;> (try simp only [HFS] at h))
    | exact E.RK.mk (by kernel_rfl)
    | (refine E.loopR (ι := Nat × Int) 4 rfl (fun ⟨i, b⟩ => [(.s 9, .v (.c (.v (vi i)))), (.s 7, .v (.c (.v (vi b))))]) [0, 1, 2, 6, 8, 45] [] [] (fun ⟨i, b⟩ => 5 - i) (fun ⟨i, b⟩ => i ≤ 5 ∧ (if areServers ms then spareGo l ms av (racksOf l ms) (([0, 1, 2, 3, 4] : List Int).drop i) b else b) = spare l ms av ∧ -1 ≤ b ∧ b < i ∧ (areServers ms = false → b = -1)) mix (by kernel_rfl) (0, -1) ?_ ?_ (fun ⟨i, b⟩ ⟨hi, hR, hb, hb2, hN⟩ => ?_); all_goals (try simp (maxSteps := 900000) only [go_sem]); all_goals (try dsimp only at hi hR hb hb2 hN))
    | (refine E.NEXT.use [] (i + 1, (i : Int)) ?_ ?_ ?_; rotate_left 2; focus (simp (maxSteps := 900000) only [go_sem]; (repeat' (first | with_reducible rfl | exact E.RK.mk (by kernel_rfl) | apply And.intro | (push_cast; with_reducible rfl) | (refine E.int_c ?_; omega) | (simp only [go_sem]; done) | (rw [List.map_append]; rfl) | (simp; done) | (simp only [*]; done) | fail)); done))
    | (refine E.NEXT.use [] (i + 1, b) ?_ ?_ ?_; rotate_left 2; focus (simp (maxSteps := 900000) only [go_sem]; (repeat' (first | with_reducible rfl | exact E.RK.mk (by kernel_rfl) | apply And.intro | (push_cast; with_reducible rfl) | (refine E.int_c ?_; omega) | (simp only [go_sem]; done) | (rw [List.map_append]; rfl) | (simp; done) | (simp only [*]; done) | fail)); done))
    | apply And.intro
    | omega
    | (have q := racks_len l ms; omega; done)
    | (have q := hasRoom_of (l := l) (id := i) (by assumption); omega; done)
    | (rw [if_pos (by assumption)] at hR ⊢; exact spare_s (by omega) hR (takes_y1 (by assumption) (by assumption) (by assumption) (by omega)); done)
    | (rw [if_pos (by assumption)] at hR ⊢; exact spare_s (by omega) hR (takes_y2 (by assumption) (by assumption) (by assumption) (by assumption)); done)
    | (rw [if_pos (by assumption)] at hR ⊢; exact spare_n (by omega) hR (takes_n1 (by assumption)); done)
    | (rw [if_pos (by assumption)] at hR ⊢; exact spare_n (by omega) hR (takes_n2 (by assumption)); done)
    | (rw [if_pos (by assumption)] at hR ⊢; exact spare_n (by omega) hR (takes_n3 (by assumption)); done)
    | (rw [if_pos (by assumption)] at hR ⊢; exact spare_n (by omega) hR (takes_n4 (by omega) (by assumption)); done)
    | (exact spare_e2 (by omega) hR; done)
    | (rw [if_neg (by simp [*])] at hR; exact hR; done)
    | (exact rfl; done)
    | (simp_all; done)
    | fail)
theorem spare_i_c (l : List Plc) (ms : List Int) (av : List Int) (hl : l.length ≤ 1048576) (hm : ms.length ≤ 12) (hv : av.length ≤ 1048576) : Fn Go.Proofs.Tryz.prog 177 [.c (.s false 3 (l.map ePlc)), .c (.s false 1 (ms.map eInt)), .c (.s false 1 (av.map eInt))] [.c .d, .c .d, .c .d] [.c (.v (vi (spare l ms av)))] := by
  refine E.Fn.ev (n := 79) mdL false mix Go.Proofs.Tryz.func177 rfl (by simp [Go.Proofs.Tryz.f177]) Go.Proofs.Tryz.ntmps177 (by simp) (by kernel_rfl) (rs := [.tmp 6]) (tys := [3]) rfl rfl (by simp [finOK, A.ts, OWN, ownE, ownT]) (by simp [resOK, A.ts, OWN, ownE, ownT, DE]) ?_
  simp only [go_sem]
  repeat' (first
    | simp only [IJS]
    | (refine E.CALL.use (areSrv_i _ ?_) ?_ <;> (try simp only [go_sem]))
    | (refine E.CALL.use (racks_i _ _ ?_ ?_) ?_ <;> (try simp only [go_sem]))
    | (refine E.CALL.use (hasRoom_i _ _ ?_) ?_ <;> (try simp only [go_sem]))
    | (refine E.CALL.use (has_i _ _ ?_) ?_ <;> (try simp only [go_sem]))
    | (refine E.GB.use (fun h => ?_) (fun h => ?_) <;> (simp only [go_sem, h]) <;> (try simp only [HFS] at h))
    | exact E.INDEP.mk2 (by kernel_rfl)
    | exact E.RK.mk (by kernel_rfl)
    | (refine E.IX_map ?_ (fun hx => ?_); rotate_left; simp only [go_sem])
    | (refine E.loopR (ι := Nat × Int) 6 rfl (fun ⟨i, b⟩ => [(.s 19, .v (.c (.v (vi i)))), (.s 7, .v (.c (.v (vi b))))]) [0, 1, 2, 6, 8, 78] [] [] (fun ⟨i, b⟩ => 5 - i) (fun ⟨i, b⟩ => i ≤ 5 ∧ spareGo l ms av (racksOf l ms) (([0, 1, 2, 3, 4] : List Int).drop i) b = spare l ms av ∧ -1 ≤ b ∧ b < i) mix (by kernel_rfl) (0, -1) ?_ ?_ (fun ⟨i, b⟩ ⟨hi, hR, hb, hb2⟩ => ?_); all_goals (try simp (maxSteps := 900000) only [go_sem]); all_goals (try dsimp only at hi hR hb hb2))
    | (refine E.NEXT.use [] (i + 1, (i : Int)) ?_ ?_ ?_; rotate_left 2; focus (simp (maxSteps := 900000) only [go_sem]; (repeat' (first | with_reducible rfl | exact E.RK.mk (by kernel_rfl) | apply And.intro | (push_cast; with_reducible rfl) | (refine E.int_c ?_; omega) | (simp only [go_sem]; done) | (rw [List.map_append]; rfl) | (simp; done) | (simp only [*]; done) | fail)); done))
    | (refine E.NEXT.use [] (i + 1, b) ?_ ?_ ?_; rotate_left 2; focus (simp (maxSteps := 900000) only [go_sem]; (repeat' (first | with_reducible rfl | exact E.RK.mk (by kernel_rfl) | apply And.intro | (push_cast; with_reducible rfl) | (refine E.int_c ?_; omega) | (simp only [go_sem]; done) | (rw [List.map_append]; rfl) | (simp; done) | (simp only [*]; done) | fail)); done))
    | apply And.intro
    | omega
    | (have q := racks_len l ms; omega; done)
    | (have q := hasRoom_of (l := l) (id := i) (by assumption); omega; done)
    | (exact spare_s (by omega) hR (takes_y1 (by assumption) (by assumption) (by assumption) (by omega)); done)
    | (exact spare_s (by omega) hR (takes_y2 (by assumption) (by assumption) (by assumption) (by first | exact better_t1 (by assumption) (by assumption) | exact better_t2a (by assumption) (by first | assumption | (symm; assumption)) (by assumption) | exact better_t2b (by assumption) (by first | assumption | (symm; assumption)) (by assumption) | exact better_f1 (by assumption) (by assumption) | exact better_f2a (by assumption) (by first | assumption | (symm; assumption)) (by first | assumption | omega) | exact better_f2b (by assumption) (by first | assumption | (symm; assumption)) (by first | assumption | omega))); done)
    | (exact spare_n (by omega) hR (takes_n1 (by assumption)); done)
    | (exact spare_n (by omega) hR (takes_n2 (by assumption)); done)
    | (exact spare_n (by omega) hR (takes_n3 (by assumption)); done)
    | (exact spare_n (by omega) hR (takes_n4 (by omega) (by first | exact better_t1 (by assumption) (by assumption) | exact better_t2a (by assumption) (by first | assumption | (symm; assumption)) (by assumption) | exact better_t2b (by assumption) (by first | assumption | (symm; assumption)) (by assumption) | exact better_f1 (by assumption) (by assumption) | exact better_f2a (by assumption) (by first | assumption | (symm; assumption)) (by first | assumption | omega) | exact better_f2b (by assumption) (by first | assumption | (symm; assumption)) (by first | assumption | omega))); done)
    | (exact spare_e (by omega) hR; done)
    | (exact (spare_y (by assumption)).symm; done)
    | (exact (spare_no (by assumption)).symm; done)
    | (exact absurd (Eq.symm (by assumption : _ = true)) (by assumption : ¬ true = _); done)
    | fail)
theorem allSrv_i  : Fn Go.Proofs.Tryz.prog 179 [] [] [.c (.s true 1 ((five).map eInt))] := by
  refine E.Fn.ev (n := 13) mdL false mix Go.Proofs.Tryz.func179 rfl (by simp [Go.Proofs.Tryz.f179]) Go.Proofs.Tryz.ntmps179 (by simp) (by kernel_rfl) (rs := [.tmp 0]) (tys := [23]) rfl rfl (by simp [finOK, A.ts, OWN, ownE, ownT]) (by simp [resOK, A.ts, OWN, ownE, ownT, DE]) ?_
  simp only [go_sem]
  repeat' (first
    | simp only [IJS]
    | (refine E.GB.use (fun h => ?_) (fun h => ?_) <;> (simp only [go_sem, h]) <;> (try simp only [HFS] at h))
    | exact E.RK.mk (by kernel_rfl)
    | (refine E.loopR (ι := Nat × List Int) 3 rfl (fun ⟨i, out⟩ => [(.s 4, .v (.c (.v (vi i)))), (.s 1, .v (.c (.r (3, 0) 0 [] 0 (out).length))), (.k (3, 0), .e ⟨0, 1, (out).map eInt⟩)]) [0, 12] [(3, 0)] [] (fun ⟨i, out⟩ => 5 - i) (fun ⟨i, out⟩ => i ≤ 5 ∧ out.length ≤ i ∧ out ++ ([0, 1, 2, 3, 4] : List Int).drop i = [0, 1, 2, 3, 4]) mix (by kernel_rfl) (0, []) ?_ ?_ (fun ⟨i, out⟩ ⟨hi, ho, hR⟩ => ?_); all_goals (try simp (maxSteps := 900000) only [go_sem]); all_goals (try dsimp only at hi ho hR))
    | (refine E.NEXT.use [((3, 0), (10, 0))] (i + 1, out ++ [(i : Int)]) ?_ ?_ ?_; rotate_left 2; focus (simp (maxSteps := 900000) only [go_sem]; (repeat' (first | with_reducible rfl | exact E.RK.mk (by kernel_rfl) | apply And.intro | (push_cast; with_reducible rfl) | (refine E.int_c ?_; omega) | (simp only [go_sem]; done) | (rw [List.map_append]; rfl) | (simp; done) | (simp only [*]; done) | fail)); done))
    | apply And.intro
    | omega
    | (simp only [List.length_take, List.length_drop, List.length_append, List.length_set, List.length_cons, List.length_nil]; omega)
    | refine congrArg (List.map _) ?_
    | (rw [five_drop (by omega)] at hR; simpa using hR; done)
    | ((rw [List.drop_of_length_le (by simp; omega), List.append_nil] at hR; exact hR); done)
    | fail)
end
section
attribute [local go_sem] mdG_eq mdM toNat_pred setI List.length_set mdL_eq E.b_rem
theorem plan_s (l : List Plc) (ms : List Int) (al : List Int) (want : Int) (hl : l.length ≤ 1048576) (hm : ms.length ≤ 12) (ha : al.length ≤ 12) : Fn Go.Proofs.Tryz.prog 163 [.c (.s false 3 (l.map ePlc)), .c (.s false 1 (ms.map eInt)), .c (.s false 1 (al.map eInt)), .c (.v (vi want))] [.c .d, .c .d, .c .d, .c .d] [.c (.s true 1 ((plan l ms al want).map eInt))] := by
  refine E.Fn.ev (n := 52) mdL false mix Go.Proofs.Tryz.func163 rfl (by simp [Go.Proofs.Tryz.f163]) Go.Proofs.Tryz.ntmps163 (by simp) (by kernel_rfl) (rs := [.tmp 8]) (tys := [23]) rfl rfl (by simp [finOK, A.ts, OWN, ownE, ownT]) (by simp [resOK, A.ts, OWN, ownE, ownT, DE]) ?_
  simp only [go_sem]
  repeat' (first
    | simp only [IJS]
    | (refine E.CALL.use (without_s [0, 1, 2, 3, 4] al ?_ ?_) ?_ <;> (try simp only [go_sem]))
    | (refine E.CALL.use (common_s _ _ ?_ ?_) ?_ <;> (try simp only [go_sem]))
    | (refine E.CALL.use (arePlc_s _ ?_) ?_ <;> (try simp only [go_sem]))
    | (refine E.CALL.use (areSrv_s _ ?_) ?_ <;> (try simp only [go_sem]))
    | (refine E.CALL.use (in_s _ _ _) ?_ <;> (try simp only [go_sem]))
    | (refine E.CALL.use (spare_s_c _ _ _ ?_ ?_ ?_) ?_ <;> (try simp only [go_sem]))
    | (refine E.CALL.use (put_s _ _ ?_) ?_ <;> (try simp only [go_sem]))
    | (refine E.GB.use (fun h => ?_) (fun h => ?_) <;> (simp only [go_sem, h]) <;> (try simp only [HFS] at h))
    | exact E.RK.mk (by kernel_rfl)
    | (refine E.loopR (ι := Nat × List Int) 5 rfl (fun ⟨n, out⟩ => [(.s 9, .v (.c (.r (14, 0) 0 [] 0 (out).length))), (.k (14, 0), .e ⟨0, 1, (out).map eInt⟩)]) [0, 3, 10, 51] [(14, 0)] [] (fun ⟨n, out⟩ => (want - out.length).toNat) (fun ⟨n, out⟩ => 0 ≤ n ∧ PlanI l (without [0, 1, 2, 3, 4] al) want (plan l ms al want) n out) mix (by kernel_rfl) (6, common ms al) ?_ ?_ (fun ⟨n, out⟩ ⟨h0, hP⟩ => ?_); all_goals (try simp (maxSteps := 900000) only [go_sem]); all_goals (try dsimp only at h0 hP))
    | (refine E.NEXT.use [((14, 0), (50, 0))] (n - 1, putI out (spare l out (without [0, 1, 2, 3, 4] al))) ?_ ?_ ?_; rotate_left 2; focus (simp (maxSteps := 900000) only [go_sem]; (repeat' (first | with_reducible rfl | exact E.RK.mk (by kernel_rfl) | apply And.intro | (push_cast; with_reducible rfl) | (refine E.int_c ?_; omega) | (simp only [go_sem]; done) | (rw [List.map_append]; rfl) | (simp; done) | (simp only [*]; done) | fail)); done))
    | apply And.intro
    | omega
    | refine congrArg (List.map _) ?_
    | (have q := hP.len; omega; done)
    | (have q := without_len [0, 1, 2, 3, 4] al; simp at q; omega; done)
    | (exact (hP.next (by omega) (by omega)).1; done)
    | (have q := (hP.next (by omega) (by omega)).2; omega; done)
    | (exact .start (by assumption) (by assumption) (by assumption) (by assumption); done)
    | (rw [plan_n (.inl (by assumption))] <;> rfl; done)
    | (rw [plan_n (.inr (.inl (by assumption)))] <;> rfl; done)
    | (rw [plan_n (.inr (.inr (.inl (by assumption))))] <;> rfl; done)
    | (rw [plan_n (.inr (.inr (.inr (by assumption))))] <;> rfl; done)
    | (rw [hP.no (by omega) (by omega)]; done)
    | (rw [hP.done (by omega)]; done)
    | fail)
theorem plan_i (l : List Plc) (ms : List Int) (al : List Int) (want : Int) (hl : l.length ≤ 1048576) (hm : ms.length ≤ 12) (ha : al.length ≤ 12) : Fn Go.Proofs.Tryz.prog 175 [.c (.s false 3 (l.map ePlc)), .c (.s false 1 (ms.map eInt)), .c (.s false 1 (al.map eInt)), .c (.v (vi want))] [.c .d, .c .d, .c .d, .c .d] [.c (.s true 1 ((plan l ms al want).map eInt))] := by
  refine E.Fn.ev (n := 52) mdL false mix Go.Proofs.Tryz.func175 rfl (by simp [Go.Proofs.Tryz.f175]) Go.Proofs.Tryz.ntmps175 (by simp) (by kernel_rfl) (rs := [.tmp 8]) (tys := [23]) rfl rfl (by simp [finOK, A.ts, OWN, ownE, ownT]) (by simp [resOK, A.ts, OWN, ownE, ownT, DE]) ?_
  simp only [go_sem]
  repeat' (first
    | simp only [IJS]
    | (refine E.CALL.use (without_i [0, 1, 2, 3, 4] al ?_ ?_) ?_ <;> (try simp only [go_sem]))
    | (refine E.CALL.use (unite_i out [spare l out (without [0, 1, 2, 3, 4] al)] ?_) ?_ <;> (try simp only [go_sem]))
    | (refine E.CALL.use (arePlc_i _ ?_) ?_ <;> (try simp only [go_sem]))
    | (refine E.CALL.use (areSrv_i _ ?_) ?_ <;> (try simp only [go_sem]))
    | (refine E.CALL.use (in_i _ _ _) ?_ <;> (try simp only [go_sem]))
    | (refine E.CALL.use (common_i _ _ ?_ ?_) ?_ <;> (try simp only [go_sem]))
    | (refine E.CALL.use (allSrv_i) ?_ <;> (try simp only [go_sem]))
    | (refine E.CALL.use (spare_i_c _ _ _ ?_ ?_ ?_) ?_ <;> (try simp only [go_sem]))
    | (refine E.GB.use (fun h => ?_) (fun h => ?_) <;> (simp only [go_sem, h]) <;> (try simp only [HFS] at h))
    | exact E.RK.mk (by kernel_rfl)
    | (refine E.loopR (ι := Nat × List Int) 4 rfl (fun ⟨n, out⟩ => [(.s 9, .v (.c (.r (33, 0) 0 [] 0 (out).length))), (.k (33, 0), .e ⟨0, 1, (out).map eInt⟩)]) [0, 3, 8, 10, 51] [(33, 0)] [] (fun ⟨n, out⟩ => (want - out.length).toNat) (fun ⟨n, out⟩ => 0 ≤ n ∧ PlanI l (without [0, 1, 2, 3, 4] al) want (plan l ms al want) n out) mix (by kernel_rfl) (6, common ms al) ?_ ?_ (fun ⟨n, out⟩ ⟨h0, hP⟩ => ?_); all_goals (try simp (maxSteps := 900000) only [go_sem]); all_goals (try dsimp only at h0 hP))
    | (refine E.NEXT.use [((33, 0), (50, 0))] (n - 1, unite out [spare l out (without [0, 1, 2, 3, 4] al)]) ?_ ?_ ?_; rotate_left 2; focus (simp (maxSteps := 900000) only [go_sem]; (repeat' (first | with_reducible rfl | exact E.RK.mk (by kernel_rfl) | apply And.intro | (push_cast; with_reducible rfl) | (refine E.int_c ?_; omega) | (simp only [go_sem]; done) | (rw [List.map_append]; rfl) | (simp; done) | (simp only [*]; done) | fail)); done))
    | apply And.intro
    | omega
    | refine congrArg (List.map _) ?_
    | (have q := hP.len; omega; done)
    | (have q := without_len [0, 1, 2, 3, 4] al; simp at q; omega; done)
    | (exact .start (by assumption) (by assumption) (by assumption) (by assumption); done)
    | (rw [plan_n (.inl (by assumption))] <;> rfl; done)
    | (rw [plan_n (.inr (.inl (by assumption)))] <;> rfl; done)
    | (rw [plan_n (.inr (.inr (.inl (by assumption))))] <;> rfl; done)
    | (rw [plan_n (.inr (.inr (.inr (by assumption))))] <;> rfl; done)
    | (rw [hP.no (by omega) (by omega)]; done)
    | (rw [hP.done (by omega)]; done)
    | ((rw [unite_one (areServers_of hP.srv).1]; exact (hP.next (by omega) (by omega)).1); done)
    | ((rw [unite_one (areServers_of hP.srv).1]; have q := (hP.next (by omega) (by omega)).2; omega); done)
    | fail)
end
section
attribute [local irreducible] activ srcLog sealM instAll renew proposeN passTime
attribute [local go_sem] mdG_eq mdM toNat_pred setI List.length_set mdL_eq E.b_rem
theorem activ_s (c : Clu) (hB : CluB c) : Fn Go.Proofs.Tryz.prog 10 [.a (eClu false c)] [.a [.d, .d, .d, .d, .d, .d, .d, .d, .d, .d]] [.a (eClu true ((activ c).1)), .c (.v (vi ((activ c).2)))] := by
  refine E.Fn.ev (n := 180) mdL false mix Go.Proofs.Tryz.func10 rfl (by simp [Go.Proofs.Tryz.f10]) Go.Proofs.Tryz.ntmps10 (by simp) (by kernel_rfl) (rs := [.cell 2 40, .tmp 3]) (tys := [40, 3]) rfl rfl (by simp [finOK, A.ts, OWN, ownE, ownT]) (by simp [resOK, A.ts, OWN, ownE, ownT, DE]) ?_
  simp only [go_sem]
  repeat' (first
    | simp only [IJS]
    | (refine E.CALL.use (copyU_s_B _ ?_) ?_ <;> (try simp only [go_sem]))
    | (refine E.CALL.use (lastChosen_s_B _ ?_) ?_ <;> (try simp only [go_sem]))
    | (refine E.CALL.use (validClu_s_B _ ?_) ?_ <;> (try simp only [go_sem]))
    | (refine E.CALL.use (over_s _ _) ?_ <;> (try simp only [go_sem]))
    | (refine E.CALL.use (sealM_s _ _ _ ?_) ?_ <;> (try simp only [go_sem]))
    | (refine E.CALL.use (srcLog_s _ _ ?_) ?_ <;> (try simp only [go_sem]))
    | (refine E.CALL.use (members_s_B _ ?_) ?_ <;> (try simp only [go_sem]))
    | (refine E.CALL.use (hasNew_s _ ?_) ?_ <;> (try simp only [go_sem]))
    | (refine E.CALL.use (inst_s _ _ _ _ ?_ ?_ ?_) ?_ <;> (try simp only [go_sem]))
    | (refine E.CALL.use (activate_s_B _ _ ?_) ?_ <;> (try simp only [go_sem]))
    | (refine E.GB.use (fun h => ?_) (fun h => ?_) <;> (simp only [go_sem, h]) <;> (try simp only [HFS] at h))
    | exact E.INDEP.mk2 (by kernel_rfl)
    | exact E.RK.mk (by kernel_rfl)
    | (refine E.IX_map ?_ (fun hx => ?_); rotate_left; simp only [go_sem])
    | (refine E.loopR (ι := Nat) 19 rfl (fun i => [(.s 10, .v (.c (.v (vi i))))]) [1, 2, 4, 5, 7, 9, 11, 12, 116, 117, 118, 119, 120, 121, 122, 123, 124, 125, 126, 127, 128, 129, 130, 131, 132, 133, 134, 135, 136, 137, 138, 139, 140, 141, 142, 143, 144, 145, 146, 147, 148, 149, 150, 151, 152, 153, 154, 155, 156, 157, 158, 159, 160, 161, 162, 163, 164, 165, 167, 168, 169, 170, 171, 172, 173, 174, 176, 177, 178, 179] [] [] (fun i => (membersOf (lastChosen c.mast).1).length - i) (fun i => i ≤ (membersOf (lastChosen c.mast).1).length ∧ ((membersOf (lastChosen c.mast).1).drop i).any (fun id => !usable c id) = (membersOf (lastChosen c.mast).1).any (fun id => !usable c id)) mix (by kernel_rfl) 0 ?_ ?_ (fun i ⟨hi, hR0⟩ => ?_); all_goals (try simp (maxSteps := 900000) only [go_sem]); all_goals (try dsimp only at hi hR0))
    | (refine E.NEXT.use [] (i + 1) ?_ ?_ ?_; rotate_left 2; focus (simp (maxSteps := 900000) only [go_sem]; (repeat' (first | with_reducible rfl | exact E.RK.mk (by kernel_rfl) | apply And.intro | (push_cast; with_reducible rfl) | (refine E.int_c ?_; omega) | (simp only [go_sem]; done) | (rw [List.map_append]; rfl) | (simp; done) | (simp only [*]; done) | (rw [List.map_set]; rfl; done) | fail)); done))
    | (refine E.loopR (ι := Nat) 24 rfl (fun j => [(.s 11, .v (.c (.v (vi j))))]) [1, 2, 4, 5, 7, 9, 12, 137, 138, 139, 140, 141, 142, 143, 144, 145, 146, 147, 148, 149, 150, 151, 152, 153, 154, 155, 156, 157, 158, 159, 160, 161, 162, 163, 164, 165, 167, 168, 169, 170, 171, 172, 173, 174, 176, 177, 178, 179] [] [] (fun j => (membersOf (lastChosen c.mast).1).length - j) (fun j => j ≤ (membersOf (lastChosen c.mast).1).length ∧ (membersOf (lastChosen c.mast).1).any (fun id => !usable c id) = false ∧ (hasNew ((srcLog c (lastChosen c.mast).1.primary).getD []) && ((membersOf (lastChosen c.mast).1).drop j).any (fun id => (srvAt c id).ver == 1)) = (hasNew ((srcLog c (lastChosen c.mast).1.primary).getD []) && (membersOf (lastChosen c.mast).1).any (fun id => (srvAt c id).ver == 1))) mix (by kernel_rfl) 0 ?_ ?_ (fun j ⟨hj, hN, hR1⟩ => ?_); all_goals (try simp (maxSteps := 900000) only [go_sem]); all_goals (try dsimp only at hj hN hR1))
    | (refine E.NEXT.use [] (j + 1) ?_ ?_ ?_; rotate_left 2; focus (simp (maxSteps := 900000) only [go_sem]; (repeat' (first | with_reducible rfl | exact E.RK.mk (by kernel_rfl) | apply And.intro | (push_cast; with_reducible rfl) | (refine E.int_c ?_; omega) | (simp only [go_sem]; done) | (rw [List.map_append]; rfl) | (simp; done) | (simp only [*]; done) | (rw [List.map_set]; rfl; done) | fail)); done))
    | (refine E.loopR (ι := Nat × Nat × List Srv) 29 rfl (fun ⟨k, v, s⟩ => [(.s 12, .v (.c (.v (vi k)))), (.k (4, 0), .e ⟨v, 10, [[.v (vi (sealM c (lastChosen c.mast).1.primary (lastChosen c.mast).1.epoch).now), .s true 12 ((s).map (eSrv true)), .s true 1 ((sealM c (lastChosen c.mast).1.primary (lastChosen c.mast).1.epoch).sides.map eInt), .s true 4 ((sealM c (lastChosen c.mast).1.primary (lastChosen c.mast).1.epoch).mast.confs.map (eConf true)), .v (vi (sealM c (lastChosen c.mast).1.primary (lastChosen c.mast).1.epoch).mast.act), .v (vi (sealM c (lastChosen c.mast).1.primary (lastChosen c.mast).1.epoch).mup), .v (vi (sealM c (lastChosen c.mast).1.primary (lastChosen c.mast).1.epoch).lse.epoch), .v (vi (sealM c (lastChosen c.mast).1.primary (lastChosen c.mast).1.epoch).lse.holder), .v (vi (sealM c (lastChosen c.mast).1.primary (lastChosen c.mast).1.epoch).lse.til), .s true 3 ((sealM c (lastChosen c.mast).1.primary (lastChosen c.mast).1.epoch).plcs.map ePlc)]]⟩)]) [1, 2, 3, 4, 5, 7, 9, 168, 169, 170, 171, 172, 173, 174, 176, 177, 178, 179] [(4, 0)] [] (fun ⟨k, v, s⟩ => (membersOf (lastChosen c.mast).1).length - k) (fun ⟨k, v, s⟩ => k ≤ (membersOf (lastChosen c.mast).1).length ∧ (hasNew ((srcLog c (lastChosen c.mast).1.primary).getD []) && (membersOf (lastChosen c.mast).1).any (fun id => (srvAt c id).ver == 1)) = false ∧ InstI (sealM c (lastChosen c.mast).1.primary (lastChosen c.mast).1.epoch) (lastChosen c.mast).1 ((srcLog c (lastChosen c.mast).1.primary).getD []) (membersOf (lastChosen c.mast).1) k s) mix (by kernel_rfl) (0, 2, (sealM c (lastChosen c.mast).1.primary (lastChosen c.mast).1.epoch).srvs) ?_ ?_ (fun ⟨k, v, s⟩ ⟨hk, hV, hZ⟩ => ?_); all_goals (try simp (maxSteps := 900000) only [go_sem]); all_goals (try dsimp only at hk hV hZ))
    | (refine E.NEXT.use [] (k + 1, v + 1, s.set (at' (membersOf (lastChosen c.mast).1) k).toNat (install (at' s (at' (membersOf (lastChosen c.mast).1) k).toNat) (lastChosen c.mast).1 (at' (membersOf (lastChosen c.mast).1) k) ((srcLog c (lastChosen c.mast).1.primary).getD [])).1) ?_ ?_ ?_; rotate_left 2; focus (simp (maxSteps := 900000) only [go_sem]; (repeat' (first | with_reducible rfl | exact E.RK.mk (by kernel_rfl) | apply And.intro | (push_cast; with_reducible rfl) | (refine E.int_c ?_; omega) | (simp only [go_sem]; done) | (rw [List.map_append]; rfl) | (simp; done) | (simp only [*]; done) | (rw [List.map_set]; rfl; done) | fail)); done))
    | apply And.intro
    | omega
    | refine congrArg (List.map _) ?_
    | (rw [activ_1a (c := c) (by with_reducible assumption)]; done)
    | (rw [activ_1b (c := c) (by with_reducible assumption)]; done)
    | (rw [activ_1c (c := c) (by omega)]; done)
    | (rw [activ_2 (c := c) ⟨(by with_reducible assumption), (by with_reducible assumption), (by first | omega | exact act_lt (by with_reducible assumption) (by with_reducible assumption) | exact act_lt (by with_reducible assumption) (by omega))⟩ (by first | with_reducible assumption | (simp only [masters_iff]; simp only [decide_eq_true_eq, decide_eq_false_iff_not]; omega))]; done)
    | (rw [activ_3 (c := c) ⟨(by with_reducible assumption), (by with_reducible assumption), (by first | omega | exact act_lt (by with_reducible assumption) (by with_reducible assumption) | exact act_lt (by with_reducible assumption) (by omega))⟩ (by first | with_reducible assumption | (simp only [masters_iff]; simp only [decide_eq_true_eq, decide_eq_false_iff_not]; omega)) (by with_reducible assumption)]; done)
    | (rw [activ_4 (c := c) ⟨(by with_reducible assumption), (by with_reducible assumption), (by first | omega | exact act_lt (by with_reducible assumption) (by with_reducible assumption) | exact act_lt (by with_reducible assumption) (by omega))⟩ (by first | with_reducible assumption | (simp only [masters_iff]; simp only [decide_eq_true_eq, decide_eq_false_iff_not]; omega)) (by with_reducible assumption) (by first | with_reducible assumption | omega)]; done)
    | (rw [activ_5 (c := c) ⟨(by with_reducible assumption), (by with_reducible assumption), (by first | omega | exact act_lt (by with_reducible assumption) (by with_reducible assumption) | exact act_lt (by with_reducible assumption) (by omega))⟩ (by first | with_reducible assumption | (simp only [masters_iff]; simp only [decide_eq_true_eq, decide_eq_false_iff_not]; omega)) (by with_reducible assumption) (by first | with_reducible assumption | omega) (by with_reducible assumption)]; done)
    | (rw [activ_6 (c := c) ⟨⟨(by with_reducible assumption), (by with_reducible assumption), (by first | omega | exact act_lt (by with_reducible assumption) (by with_reducible assumption) | exact act_lt (by with_reducible assumption) (by omega))⟩, (by first | with_reducible assumption | (simp only [masters_iff]; simp only [decide_eq_true_eq, decide_eq_false_iff_not]; omega)), (by with_reducible assumption), (by first | with_reducible assumption | omega), (by with_reducible assumption)⟩ (by with_reducible assumption)]; done)
    | (have q := conf_prim (lastChosen_of (m := c.mast) (by with_reducible assumption)).2.2.1; have q2 := validClu_of (c := c) (by with_reducible assumption); have q3 := areSides_len q2.2.2.2.1; omega; done)
    | (have q := members_len (lastChosen c.mast).1; omega; done)
    | (have q := members_at (c := (lastChosen c.mast).1) (i := i) (by omega); have q2 := validClu_of (c := c) (by with_reducible assumption); have q3 := areSides_len q2.2.2.2.1; have q4 := sealM_len c (lastChosen c.mast).1.primary (lastChosen c.mast).1.epoch; (try have q5 := hZ.len); omega; done)
    | (have q := members_at (c := (lastChosen c.mast).1) (i := j) (by omega); have q2 := validClu_of (c := c) (by with_reducible assumption); have q3 := areSides_len q2.2.2.2.1; have q4 := sealM_len c (lastChosen c.mast).1.primary (lastChosen c.mast).1.epoch; (try have q5 := hZ.len); omega; done)
    | (have q := members_at (c := (lastChosen c.mast).1) (i := k) (by omega); have q2 := validClu_of (c := c) (by with_reducible assumption); have q3 := areSides_len q2.2.2.2.1; have q4 := sealM_len c (lastChosen c.mast).1.primary (lastChosen c.mast).1.epoch; (try have q5 := hZ.len); omega; done)
    | (exact srcLog_len hB; done)
    | (exact srvB_at hZ.b _; done)
    | (exact .start (sealM_B hB); done)
    | (exact hZ.next (by omega) hB.m.lc (srcLog_len hB); done)
    | (exact CluB.m (by assumption); done)
    | (exact (CluB.m (by assumption)).lc; done)
    | (rw [activ_7 (c := c) ⟨⟨(by with_reducible assumption), (by with_reducible assumption), (by first | omega | exact act_lt (by with_reducible assumption) (by with_reducible assumption) | exact act_lt (by with_reducible assumption) (by omega))⟩, (by first | with_reducible assumption | (simp only [masters_iff]; simp only [decide_eq_true_eq, decide_eq_false_iff_not]; omega)), (by with_reducible assumption), (by first | with_reducible assumption | omega), (by with_reducible assumption)⟩ (by with_reducible assumption) (by rw [drop_at (l := (membersOf (lastChosen c.mast).1)) (i := i) (by omega)] at hR0; rw [← hR0]; simp [usable, srvAt, *])]; done)
    | (rw [drop_at (l := (membersOf (lastChosen c.mast).1)) (i := i) (by omega)] at hR0; rw [← hR0]; simp [usable, srvAt, *]; done)
    | (rw [E.drop_end (l := (membersOf (lastChosen c.mast).1)) (i := i) (by omega)] at hR0; exact hR0.symm; done)
    | ((rw [drop_at (l := (membersOf (lastChosen c.mast).1)) (i := j) (by omega)] at hR1; have g : ((srvAt c (at' (membersOf (lastChosen c.mast).1) j)).ver == 1) = false := (by unfold srvAt; rw [beq_eq_false_iff_ne]; with_reducible assumption); simp only [List.any_cons, g, Bool.false_or] at hR1; exact hR1); done)
    | (rw [drop_at (l := (membersOf (lastChosen c.mast).1)) (i := j) (by omega)] at hR1; simpa [srvAt, *] using hR1; done)
    | (rw [E.drop_end (l := (membersOf (lastChosen c.mast).1)) (i := j) (by omega)] at hR1; simpa using hR1.symm; done)
    | (rw [activ_8 (c := c) ⟨⟨(by with_reducible assumption), (by with_reducible assumption), (by first | omega | exact act_lt (by with_reducible assumption) (by with_reducible assumption) | exact act_lt (by with_reducible assumption) (by omega))⟩, (by first | with_reducible assumption | (simp only [masters_iff]; simp only [decide_eq_true_eq, decide_eq_false_iff_not]; omega)), (by with_reducible assumption), (by first | with_reducible assumption | omega), (by with_reducible assumption)⟩ (by with_reducible assumption) hN (by with_reducible assumption) (by rw [drop_at (l := (membersOf (lastChosen c.mast).1)) (i := j) (by omega)] at hR1; generalize hasNew ((srcLog c (lastChosen c.mast).1.primary).getD []) = z at *; simp_all [srvAt])]; done)
    | (rw [activ_9 (c := c) ⟨⟨(by with_reducible assumption), (by with_reducible assumption), (by first | omega | exact act_lt (by with_reducible assumption) (by with_reducible assumption) | exact act_lt (by with_reducible assumption) (by omega))⟩, (by first | with_reducible assumption | (simp only [masters_iff]; simp only [decide_eq_true_eq, decide_eq_false_iff_not]; omega)), (by with_reducible assumption), (by first | with_reducible assumption | omega), (by with_reducible assumption)⟩ (by with_reducible assumption) hN hV] <;> (first | rfl | (have q9 := congrArg (fun x : Clu => x.srvs) (hZ.fin (by omega)); exact q9)); done)
    | (rw [activ_9 (c := c) ⟨⟨(by with_reducible assumption), (by with_reducible assumption), (by first | omega | exact act_lt (by with_reducible assumption) (by with_reducible assumption) | exact act_lt (by with_reducible assumption) (by omega))⟩, (by first | with_reducible assumption | (simp only [masters_iff]; simp only [decide_eq_true_eq, decide_eq_false_iff_not]; omega)), (by with_reducible assumption), (by first | with_reducible assumption | omega), (by with_reducible assumption)⟩ (by with_reducible assumption) hN hV] <;> (first | rfl | (have q9 := congrArg (fun x : Clu => x.now) (hZ.fin (by omega)); exact q9)); done)
    | (rw [activ_9 (c := c) ⟨⟨(by with_reducible assumption), (by with_reducible assumption), (by first | omega | exact act_lt (by with_reducible assumption) (by with_reducible assumption) | exact act_lt (by with_reducible assumption) (by omega))⟩, (by first | with_reducible assumption | (simp only [masters_iff]; simp only [decide_eq_true_eq, decide_eq_false_iff_not]; omega)), (by with_reducible assumption), (by first | with_reducible assumption | omega), (by with_reducible assumption)⟩ (by with_reducible assumption) hN hV] <;> (first | rfl | (have q9 := congrArg (fun x : Clu => x.sides) (hZ.fin (by omega)); exact q9)); done)
    | (rw [activ_9 (c := c) ⟨⟨(by with_reducible assumption), (by with_reducible assumption), (by first | omega | exact act_lt (by with_reducible assumption) (by with_reducible assumption) | exact act_lt (by with_reducible assumption) (by omega))⟩, (by first | with_reducible assumption | (simp only [masters_iff]; simp only [decide_eq_true_eq, decide_eq_false_iff_not]; omega)), (by with_reducible assumption), (by first | with_reducible assumption | omega), (by with_reducible assumption)⟩ (by with_reducible assumption) hN hV] <;> (first | rfl | (have q9 := congrArg (fun x : Clu => x.mup) (hZ.fin (by omega)); exact q9)); done)
    | (rw [activ_9 (c := c) ⟨⟨(by with_reducible assumption), (by with_reducible assumption), (by first | omega | exact act_lt (by with_reducible assumption) (by with_reducible assumption) | exact act_lt (by with_reducible assumption) (by omega))⟩, (by first | with_reducible assumption | (simp only [masters_iff]; simp only [decide_eq_true_eq, decide_eq_false_iff_not]; omega)), (by with_reducible assumption), (by first | with_reducible assumption | omega), (by with_reducible assumption)⟩ (by with_reducible assumption) hN hV] <;> (first | rfl | (have q9 := congrArg (fun x : Clu => x.plcs) (hZ.fin (by omega)); exact q9)); done)
    | fail)
end
end Go.Abs

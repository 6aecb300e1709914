/- Contracts of functions of the program, over the abstract machine, and facts for them. No condition. -/
import Derived.Test.YtandfgncjpgifaaGreatFacts
import Derived.Test.YtandfgncjpgifaaGreatPure19
import Derived.Test.YtandfgncjpgifaaGreatQ10
import Derived.Test.YtandfgncjpgifaaGreatQ16
import Derived.Test.YtandfgncjpgifaaGreatQ3
import Derived.Test.YtandfgncjpgifaaGreatQ31
import Derived.Test.YtandfgncjpgifaaGreatQ42
import Derived.Test.YtandfgncjpgifaaGreatQ6
import Derived.Test.YtandfgncjpgifaaGreatQ64
import Derived.Test.YtandfgncjpgifaaGreatQ8
set_option linter.unusedVariables false
set_option linter.unusedSimpArgs false
set_option linter.unnecessarySimpa false
set_option linter.constructorNameAsVariable false
set_option maxHeartbeats 4000000
set_option maxRecDepth 100000
namespace Go.Abs
open Go
attribute [local go_sem ↓] E.argsA_h E.wq_ret E.wq_req E.wq_bad E.wq_call E.wq_get E.wq_getO E.wq_getOs E.wq_getPs E.wq_fresh E.wq_anyNil E.wq_getR0 E.wq_getR E.wq_ixM E.wq_n E.wq_g E.wq_gn E.ev_skip E.ev_region E.ev_draw E.ev_seq E.ev_cond E.ev_block E.ev_exit E.ev_ret E.sq_n E.sq_e E.sq_r E.bl_n E.bl_e E.bl_r E.lp_n E.lp_e E.lp_r E.fk_n E.fk_r E.q_move E.q_assign E.q_pick E.q_bin E.q_binw E.q_un E.q_alloc E.q_box E.q_build E.q_buildS E.q_makeS E.q_load E.q_store E.q_nilCheck E.q_slice E.q_fieldAddr E.q_field E.q_indexAddr E.q_extract E.q_makeFunc E.q_call E.q_callT E.q_len E.q_append E.q_min E.q_max E.q_convert E.q_cap E.q_clear appendIM appendZM E.b_add E.b_sub E.b_mul E.b_eql E.b_neq E.b_lss E.b_leq E.b_gtr E.b_geq E.GO_tmp E.GO_int E.GO_bool E.GO_str E.GO_nil E.GO_func E.GOs_nil E.GOs_cons E.GPs_nil E.GPs_cons E.RW_nil E.RW_cons E.dstAt_0 E.dstAt_s E.keepL_nil E.keepL_s E.keepL_k E.rmN_nil E.rmN_cons E.memN_nil E.memN_cons E.memK_nil E.memK_cons E.ovl_nil E.ovl_kk E.ovl_sk E.ovl_ks E.ovl_ss ofL_s ofL_sk ofL_ks ofL_k ofL_nil E.CO_tmp E.CO_bool
attribute [local go_sem] E.RM_nil E.RM_cons E.kd_k E.sbr_eq E.s3_nil E.s3_s E.s3_k E.vr_c E.vr_a E.vr_p E.vr_q E.vr_t E.vr_f E.vr_u E.cr_r E.cr_v E.cr_b E.cr_n E.cr_u E.crs_nil E.crs_cons E.renK_nil E.renK_cons keysVs V.keys C.keys keysCs E.RG_nil E.RG_cons E.GV_v E.GB_true E.GB_false E.GX_b E.GG_t E.GG_f E.GG_u E.GU_some E.IX_0 E.IX_s E.CX_s E.FR_none E.EN_e E.GVB_b E.b_boolM E.b_nilM E.b_strM E.b_aggM
attribute [local go_sem] List.cons_append List.nil_append List.append_nil List.length_cons List.length_nil List.length_map List.length_append callM E.argsH_nil E.argsH_cons E.argH_c E.argH_a E.argH_f E.cellsH_nil E.cellsH_cons E.cellH_v E.cellH_b E.cellH_n E.cellH_nt E.cellH_u E.cellH_rt E.cellH_rf capsA capA callable backs backT resVs resV resC tupV lenV intV boolV getE getO entryL entryKs A.ts entryV entryC entryCs entryCap List.map_cons List.map_nil E.cut_n E.cut_r E.cutM plainL A.capOK szEs szE szT SZ whole toB toC List.drop_zero List.take_zero List.take_succ_cons List.drop_succ_cons resultsM resultM outM outM1 convs conv finAs finA finT finTs Int.toNat_natCast A.plain T.plain List.isEmpty_nil List.isEmpty_cons Bool.or_true Bool.true_or Bool.and_self List.getElem?_cons_zero List.getElem?_cons_succ Option.bind_some Option.bind_none Option.bind Nat.zero_add Nat.add_zero OWN BOR ONE SCAL DE ETA E.take_rest Int.toNat_zero E.take_map E.drop_map E.take_len1 List.take_length E.app_map Int.natCast_zero Int.sub_zero Int.toNat_sub partCells V.cells convsL appendM srcM E.scalEs_nil E.scalEs_cons E.oneEs_nil E.oneEs_cons List.all_cons List.all_nil T.one Bool.and_true gone ownEs ownE ownT borEs borE borT setRow splice List.set_cons_zero List.set_cons_succ optI getOpt sliceM ptrTo app_ofL T.isV Value.oneCell' fillC zeroC spliceC allV eqVs eqV minV maxV setAt setCell holed List.dropLast List.getLast?_singleton Option.getD_some Option.isSome_some Option.isSome_none Bool.and_false Bool.true_and Bool.false_and Option.map_some Option.map_none false_or true_or or_true rowAt cellAt E.constV_nil E.constV_int E.constV_bool E.constV_str E.setCell_set E.setCell_len setRow setAt List.dropLast_cons_cons List.dropLast_singleton List.getLast?_cons_cons
attribute [local go_sem_proc ↓] reduceIte
attribute [local go_sem_proc] Nat.reduceEqDiff reduceCtorEq Nat.reduceAdd Nat.reduceMul
attribute [local irreducible] E.argsH E.argH E.cellsH E.cellH E.GV E.GB E.GX E.GG E.GU E.IX E.CX E.RW E.FR E.EN E.CALL E.GO E.GOs E.GPs E.GVB E.KD E.RM E.RG E.CO E.WQ E.EV E.SQ E.BL E.LP E.FK E.S3 E.RK E.NEXT E.NQ E.INDEP
section
attribute [local irreducible] activ srcLog sealM instAll renew proposeN passTime
attribute [local go_sem] mdG_eq mdM toNat_pred setI List.length_set mdL_eq E.b_rem
theorem usable_i (c : Clu) (id : Int) (hl : c.srvs.length = 5) (hs : c.sides.length = 5) (hm : 0 ≤ id ∧ id ≤ 4) : Fn Go.Proofs.Tryz.prog 55 [.a (eClu false c), .c (.v (vi id))] [.a [.d, .d, .d, .d, .d, .d, .d, .d, .d, .d], .c .d] [.c (.v (.bool (usable c id)))] := by
  refine E.Fn.ev (n := 19) mdL false mix Go.Proofs.Tryz.func55 rfl (by simp [Go.Proofs.Tryz.f55]) Go.Proofs.Tryz.ntmps55 (by simp) (by kernel_rfl) (rs := [.tmp 4]) (tys := [4]) rfl rfl (by simp [finOK, A.ts, OWN, ownE, ownT]) (by simp [resOK, A.ts, OWN, ownE, ownT, DE]) ?_
  simp only [go_sem]
  repeat' (first
    | simp only [IJS]
    | (refine E.GB.use (fun h => ?_) (fun h => ?_) <;> (simp only [go_sem, h]) <;> (try simp only [HFS] at h))
    | (refine E.IX_map ?_ (fun hx => ?_); rotate_left; simp only [go_sem])
    | apply And.intro
    | omega
    | (simp [usable, srvAt, *]; done)
    | fail)
theorem acU_c (id : Int) (c : Clu) (hl : c.srvs.length = 5) (hs : c.sides.length = 5) (hm : 0 ≤ id ∧ id ≤ 4) : Fn Go.Proofs.Tryz.prog 54 [.c (.v (vi id)), .q 10 [eClu false c] 0 0] [.c .d, .q 10 [eClu false c] 0 0] [.c (.v (.bool (!usable c id)))] := by
  refine E.Fn.ev (n := 8) mdL false mix Go.Proofs.Tryz.func54 rfl (by simp [Go.Proofs.Tryz.f54]) Go.Proofs.Tryz.ntmps54 (by simp) (by kernel_rfl) (rs := [.tmp 3]) (tys := [4]) rfl rfl (by simp [finOK, A.ts, OWN, ownE, ownT]) (by simp [resOK, A.ts, OWN, ownE, ownT, DE]) ?_
  simp only [go_sem]
  repeat' (first
    | simp only [IJS]
    | (refine E.CALL.use (usable_i _ _ ?_ ?_ ?_) ?_ <;> (try simp only [go_sem]))
    | apply And.intro
    | omega
    | fail)
theorem acV_c (id : Int) (c : Clu) (hl : c.srvs.length = 5) (hm : 0 ≤ id ∧ id ≤ 4) : Fn Go.Proofs.Tryz.prog 57 [.c (.v (vi id)), .q 10 [eClu false c] 0 0] [.c .d, .q 10 [eClu false c] 0 0] [.c (.v (.bool ((at' c.srvs id.toNat).ver == 1)))] := by
  refine E.Fn.ev (n := 11) mdL false mix Go.Proofs.Tryz.func57 rfl (by simp [Go.Proofs.Tryz.f57]) Go.Proofs.Tryz.ntmps57 (by simp) (by kernel_rfl) (rs := [.tmp 3]) (tys := [4]) rfl rfl (by simp [finOK, A.ts, OWN, ownE, ownT]) (by simp [resOK, A.ts, OWN, ownE, ownT, DE]) ?_
  simp only [go_sem]
  repeat' (first
    | simp only [IJS]
    | (refine E.IX_map ?_ (fun hx => ?_); rotate_left; simp only [go_sem])
    | apply And.intro
    | omega
    | fail)
theorem activ_i (c : Clu) (hB : CluB c) : Fn Go.Proofs.Tryz.prog 12 [.a (eClu false c)] [.a [.d, .d, .d, .d, .d, .d, .d, .d, .d, .d]] [.a (eClu true ((activ c).1)), .c (.v (vi ((activ c).2)))] := by
  refine E.Fn.ev (n := 136) mdL false mix Go.Proofs.Tryz.func12 rfl (by simp [Go.Proofs.Tryz.f12]) Go.Proofs.Tryz.ntmps12 (by simp) (by kernel_rfl) (rs := [.cell 2 40, .tmp 3]) (tys := [40, 3]) rfl rfl (by simp [finOK, A.ts, OWN, ownE, ownT]) (by simp [resOK, A.ts, OWN, ownE, ownT, DE]) ?_
  simp only [go_sem]
  repeat' (first
    | simp only [IJS]
    | (refine E.CALL.use (anyF_I1 (membersOf (lastChosen c.mast).1) (fun id => !usable (sealM c (lastChosen c.mast).1.primary (lastChosen c.mast).1.epoch) id) 54 10 [eClu false (sealM c (lastChosen c.mast).1.primary (lastChosen c.mast).1.epoch)] ?_ (fun id h => acU_c id (sealM c (lastChosen c.mast).1.primary (lastChosen c.mast).1.epoch) ?_ ?_ (members_in h))) ?_ <;> (try simp only [go_sem]))
    | (refine E.CALL.use (anyF_I1 (membersOf (lastChosen c.mast).1) (fun id => (at' (sealM c (lastChosen c.mast).1.primary (lastChosen c.mast).1.epoch).srvs id.toNat).ver == 1) 57 10 [eClu false (sealM c (lastChosen c.mast).1.primary (lastChosen c.mast).1.epoch)] ?_ (fun id h => acV_c id (sealM c (lastChosen c.mast).1.primary (lastChosen c.mast).1.epoch) ?_ (members_in h))) ?_ <;> (try simp only [go_sem]))
    | (refine E.CALL.use (lastChosen_i_B _ ?_) ?_ <;> (try simp only [go_sem]))
    | (refine E.CALL.use (validClu_i _ ?_) ?_ <;> (try simp only [go_sem]))
    | (refine E.CALL.use (copyU_i_B _ ?_) ?_ <;> (try simp only [go_sem]))
    | (refine E.CALL.use (mw_i _ ?_) ?_ <;> (try simp only [go_sem]))
    | (refine E.CALL.use (over_i _ _) ?_ <;> (try simp only [go_sem]))
    | (refine E.CALL.use (sealM_i _ _ _ ?_) ?_ <;> (try simp only [go_sem]))
    | (refine E.CALL.use (srcLog_i _ _ ?_) ?_ <;> (try simp only [go_sem]))
    | (refine E.CALL.use (members_i_B _ ?_) ?_ <;> (try simp only [go_sem]))
    | (refine E.CALL.use (hasNew_i _ ?_) ?_ <;> (try simp only [go_sem]))
    | (refine E.CALL.use (inst_i _ _ _ _ ?_ ?_ ?_) ?_ <;> (try simp only [go_sem]))
    | (refine E.CALL.use (activate_i_B _ _ ?_) ?_ <;> (try simp only [go_sem]))
    | (refine E.GB.use (fun h => ?_) (fun h => ?_) <;> (simp only [go_sem, h]) <;> (try simp only [HFS] at h))
    | exact E.INDEP.mk2 (by kernel_rfl)
    | exact E.RK.mk (by kernel_rfl)
    | (refine E.IX_map ?_ (fun hx => ?_); rotate_left; simp only [go_sem])
    | (refine E.loopR (ι := Nat × Nat × List Srv) 22 rfl (fun ⟨k, v, s⟩ => [(.s 103, .v (.c (.v (vi k)))), (.k (6, 0), .e ⟨v, 10, [[.v (vi (sealM c (lastChosen c.mast).1.primary (lastChosen c.mast).1.epoch).now), .s true 12 ((s).map (eSrv true)), .s true 1 ((sealM c (lastChosen c.mast).1.primary (lastChosen c.mast).1.epoch).sides.map eInt), .s true 4 ((sealM c (lastChosen c.mast).1.primary (lastChosen c.mast).1.epoch).mast.confs.map (eConf true)), .v (vi (sealM c (lastChosen c.mast).1.primary (lastChosen c.mast).1.epoch).mast.act), .v (vi (sealM c (lastChosen c.mast).1.primary (lastChosen c.mast).1.epoch).mup), .v (vi (sealM c (lastChosen c.mast).1.primary (lastChosen c.mast).1.epoch).lse.epoch), .v (vi (sealM c (lastChosen c.mast).1.primary (lastChosen c.mast).1.epoch).lse.holder), .v (vi (sealM c (lastChosen c.mast).1.primary (lastChosen c.mast).1.epoch).lse.til), .s true 3 ((sealM c (lastChosen c.mast).1.primary (lastChosen c.mast).1.epoch).plcs.map ePlc)]]⟩)]) [2, 3, 4, 6, 7, 101, 102, 124, 125, 126, 127, 128, 129, 130, 132, 133, 134, 135] [(6, 0)] [] (fun ⟨k, v, s⟩ => (membersOf (lastChosen c.mast).1).length - k) (fun ⟨k, v, s⟩ => k ≤ (membersOf (lastChosen c.mast).1).length ∧ InstI (sealM c (lastChosen c.mast).1.primary (lastChosen c.mast).1.epoch) (lastChosen c.mast).1 ((srcLog (sealM c (lastChosen c.mast).1.primary (lastChosen c.mast).1.epoch) (lastChosen c.mast).1.primary).getD []) (membersOf (lastChosen c.mast).1) k s) mix (by kernel_rfl) (0, 1, (sealM c (lastChosen c.mast).1.primary (lastChosen c.mast).1.epoch).srvs) ?_ ?_ (fun ⟨k, v, s⟩ ⟨hk, hZ⟩ => ?_); all_goals (try simp (maxSteps := 900000) only [go_sem]); all_goals (try dsimp only at hk hZ))
    | (refine E.NEXT.use [] (k + 1, v + 1, s.set (at' (membersOf (lastChosen c.mast).1) k).toNat (install (at' s (at' (membersOf (lastChosen c.mast).1) k).toNat) (lastChosen c.mast).1 (at' (membersOf (lastChosen c.mast).1) k) ((srcLog (sealM c (lastChosen c.mast).1.primary (lastChosen c.mast).1.epoch) (lastChosen c.mast).1.primary).getD [])).1) ?_ ?_ ?_; rotate_left 2; focus (simp (maxSteps := 900000) only [go_sem]; (repeat' (first | with_reducible rfl | exact E.RK.mk (by kernel_rfl) | apply And.intro | (push_cast; with_reducible rfl) | (refine E.int_c ?_; omega) | (simp only [go_sem]; done) | (rw [List.map_append]; rfl) | (simp; done) | (simp only [*]; done) | (rw [List.map_set]; rfl; done) | fail)); done))
    | apply And.intro
    | omega
    | refine congrArg (List.map _) ?_
    | (rw [activ_1a (c := c) (by with_reducible assumption)]; done)
    | (rw [activ_1b (c := c) (by with_reducible assumption)]; done)
    | (rw [activ_1c (c := c) (by omega)]; done)
    | (rw [activ_2 (c := c) ⟨(by with_reducible assumption), (by with_reducible assumption), (by first | omega | exact act_lt (by with_reducible assumption) (by with_reducible assumption) | exact act_lt (by with_reducible assumption) (by omega))⟩ (by first | with_reducible assumption | (simp only [masters_iff]; simp only [decide_eq_true_eq, decide_eq_false_iff_not]; omega))]; done)
    | (rw [activ_3 (c := c) ⟨(by with_reducible assumption), (by with_reducible assumption), (by first | omega | exact act_lt (by with_reducible assumption) (by with_reducible assumption) | exact act_lt (by with_reducible assumption) (by omega))⟩ (by first | with_reducible assumption | (simp only [masters_iff]; simp only [decide_eq_true_eq, decide_eq_false_iff_not]; omega)) (by with_reducible assumption)]; done)
    | (rw [activ_4 (c := c) ⟨(by with_reducible assumption), (by with_reducible assumption), (by first | omega | exact act_lt (by with_reducible assumption) (by with_reducible assumption) | exact act_lt (by with_reducible assumption) (by omega))⟩ (by first | with_reducible assumption | (simp only [masters_iff]; simp only [decide_eq_true_eq, decide_eq_false_iff_not]; omega)) (by with_reducible assumption) (by first | with_reducible assumption | omega)]; done)
    | (rw [activ_5 (c := c) ⟨(by with_reducible assumption), (by with_reducible assumption), (by first | omega | exact act_lt (by with_reducible assumption) (by with_reducible assumption) | exact act_lt (by with_reducible assumption) (by omega))⟩ (by first | with_reducible assumption | (simp only [masters_iff]; simp only [decide_eq_true_eq, decide_eq_false_iff_not]; omega)) (by with_reducible assumption) (by first | with_reducible assumption | omega) (by with_reducible assumption)]; done)
    | (have q := conf_prim (lastChosen_of (m := c.mast) (by with_reducible assumption)).2.2.1; have q2 := validClu_of (c := c) (by with_reducible assumption); have q3 := areSides_len q2.2.2.2.1; omega; done)
    | (have q := members_len (lastChosen c.mast).1; omega; done)
    | (have q := members_at (c := (lastChosen c.mast).1) (i := k) (by omega); have q2 := validClu_of (c := c) (by with_reducible assumption); have q3 := areSides_len q2.2.2.2.1; have q4 := sealM_len c (lastChosen c.mast).1.primary (lastChosen c.mast).1.epoch; (try have q5 := hZ.len); omega; done)
    | (rw [sealM_len]; exact (validClu_of (c := c) (by with_reducible assumption)).2.2.1; done)
    | (rw [sealM_sides]; exact areSides_len (validClu_of (c := c) (by with_reducible assumption)).2.2.2.1; done)
    | (exact sealM_B hB; done)
    | (exact srcLog_len (sealM_B hB); done)
    | (exact srvB_at hZ.b _; done)
    | (exact .start (sealM_B hB); done)
    | (exact hZ.next (by omega) hB.m.lc (srcLog_len (sealM_B hB)); done)
    | (exact (sealM_B hB).m; done)
    | (exact CluB.m (by assumption); done)
    | (exact (CluB.m (by assumption)).lc; done)
    | (rw [activ_6i (c := c) ⟨⟨(by with_reducible assumption), (by with_reducible assumption), (by first | omega | exact act_lt (by with_reducible assumption) (by with_reducible assumption) | exact act_lt (by with_reducible assumption) (by omega))⟩, (by first | with_reducible assumption | (simp only [masters_iff]; simp only [decide_eq_true_eq, decide_eq_false_iff_not]; omega)), (by with_reducible assumption), (by first | with_reducible assumption | omega), (by with_reducible assumption)⟩ (by with_reducible assumption)]; done)
    | (rw [activ_7i (c := c) ⟨⟨(by with_reducible assumption), (by with_reducible assumption), (by first | omega | exact act_lt (by with_reducible assumption) (by with_reducible assumption) | exact act_lt (by with_reducible assumption) (by omega))⟩, (by first | with_reducible assumption | (simp only [masters_iff]; simp only [decide_eq_true_eq, decide_eq_false_iff_not]; omega)), (by with_reducible assumption), (by first | with_reducible assumption | omega), (by with_reducible assumption)⟩ (by with_reducible assumption) (by with_reducible assumption)]; done)
    | (rw [activ_8i (c := c) ⟨⟨(by with_reducible assumption), (by with_reducible assumption), (by first | omega | exact act_lt (by with_reducible assumption) (by with_reducible assumption) | exact act_lt (by with_reducible assumption) (by omega))⟩, (by first | with_reducible assumption | (simp only [masters_iff]; simp only [decide_eq_true_eq, decide_eq_false_iff_not]; omega)), (by with_reducible assumption), (by first | with_reducible assumption | omega), (by with_reducible assumption)⟩ (by with_reducible assumption) (by with_reducible assumption) (by with_reducible assumption) (by with_reducible assumption)]; done)
    | (rw [activ_9i (c := c) ⟨⟨(by with_reducible assumption), (by with_reducible assumption), (by first | omega | exact act_lt (by with_reducible assumption) (by with_reducible assumption) | exact act_lt (by with_reducible assumption) (by omega))⟩, (by first | with_reducible assumption | (simp only [masters_iff]; simp only [decide_eq_true_eq, decide_eq_false_iff_not]; omega)), (by with_reducible assumption), (by first | with_reducible assumption | omega), (by with_reducible assumption)⟩ (by with_reducible assumption) (by with_reducible assumption) (.inl (by with_reducible assumption))] <;> (first | rfl | (have q9 := congrArg (fun x : Clu => x.srvs) (hZ.fin (by omega)); exact q9)); done)
    | (rw [activ_9i (c := c) ⟨⟨(by with_reducible assumption), (by with_reducible assumption), (by first | omega | exact act_lt (by with_reducible assumption) (by with_reducible assumption) | exact act_lt (by with_reducible assumption) (by omega))⟩, (by first | with_reducible assumption | (simp only [masters_iff]; simp only [decide_eq_true_eq, decide_eq_false_iff_not]; omega)), (by with_reducible assumption), (by first | with_reducible assumption | omega), (by with_reducible assumption)⟩ (by with_reducible assumption) (by with_reducible assumption) (.inr (by with_reducible assumption))] <;> (first | rfl | (have q9 := congrArg (fun x : Clu => x.srvs) (hZ.fin (by omega)); exact q9)); done)
    | (rw [activ_9i (c := c) ⟨⟨(by with_reducible assumption), (by with_reducible assumption), (by first | omega | exact act_lt (by with_reducible assumption) (by with_reducible assumption) | exact act_lt (by with_reducible assumption) (by omega))⟩, (by first | with_reducible assumption | (simp only [masters_iff]; simp only [decide_eq_true_eq, decide_eq_false_iff_not]; omega)), (by with_reducible assumption), (by first | with_reducible assumption | omega), (by with_reducible assumption)⟩ (by with_reducible assumption) (by with_reducible assumption) (.inl (by with_reducible assumption))] <;> (first | rfl | (have q9 := congrArg (fun x : Clu => x.now) (hZ.fin (by omega)); exact q9)); done)
    | (rw [activ_9i (c := c) ⟨⟨(by with_reducible assumption), (by with_reducible assumption), (by first | omega | exact act_lt (by with_reducible assumption) (by with_reducible assumption) | exact act_lt (by with_reducible assumption) (by omega))⟩, (by first | with_reducible assumption | (simp only [masters_iff]; simp only [decide_eq_true_eq, decide_eq_false_iff_not]; omega)), (by with_reducible assumption), (by first | with_reducible assumption | omega), (by with_reducible assumption)⟩ (by with_reducible assumption) (by with_reducible assumption) (.inr (by with_reducible assumption))] <;> (first | rfl | (have q9 := congrArg (fun x : Clu => x.now) (hZ.fin (by omega)); exact q9)); done)
    | (rw [activ_9i (c := c) ⟨⟨(by with_reducible assumption), (by with_reducible assumption), (by first | omega | exact act_lt (by with_reducible assumption) (by with_reducible assumption) | exact act_lt (by with_reducible assumption) (by omega))⟩, (by first | with_reducible assumption | (simp only [masters_iff]; simp only [decide_eq_true_eq, decide_eq_false_iff_not]; omega)), (by with_reducible assumption), (by first | with_reducible assumption | omega), (by with_reducible assumption)⟩ (by with_reducible assumption) (by with_reducible assumption) (.inl (by with_reducible assumption))] <;> (first | rfl | (have q9 := congrArg (fun x : Clu => x.sides) (hZ.fin (by omega)); exact q9)); done)
    | (rw [activ_9i (c := c) ⟨⟨(by with_reducible assumption), (by with_reducible assumption), (by first | omega | exact act_lt (by with_reducible assumption) (by with_reducible assumption) | exact act_lt (by with_reducible assumption) (by omega))⟩, (by first | with_reducible assumption | (simp only [masters_iff]; simp only [decide_eq_true_eq, decide_eq_false_iff_not]; omega)), (by with_reducible assumption), (by first | with_reducible assumption | omega), (by with_reducible assumption)⟩ (by with_reducible assumption) (by with_reducible assumption) (.inr (by with_reducible assumption))] <;> (first | rfl | (have q9 := congrArg (fun x : Clu => x.sides) (hZ.fin (by omega)); exact q9)); done)
    | (rw [activ_9i (c := c) ⟨⟨(by with_reducible assumption), (by with_reducible assumption), (by first | omega | exact act_lt (by with_reducible assumption) (by with_reducible assumption) | exact act_lt (by with_reducible assumption) (by omega))⟩, (by first | with_reducible assumption | (simp only [masters_iff]; simp only [decide_eq_true_eq, decide_eq_false_iff_not]; omega)), (by with_reducible assumption), (by first | with_reducible assumption | omega), (by with_reducible assumption)⟩ (by with_reducible assumption) (by with_reducible assumption) (.inl (by with_reducible assumption))] <;> (first | rfl | (have q9 := congrArg (fun x : Clu => x.mup) (hZ.fin (by omega)); exact q9)); done)
    | (rw [activ_9i (c := c) ⟨⟨(by with_reducible assumption), (by with_reducible assumption), (by first | omega | exact act_lt (by with_reducible assumption) (by with_reducible assumption) | exact act_lt (by with_reducible assumption) (by omega))⟩, (by first | with_reducible assumption | (simp only [masters_iff]; simp only [decide_eq_true_eq, decide_eq_false_iff_not]; omega)), (by with_reducible assumption), (by first | with_reducible assumption | omega), (by with_reducible assumption)⟩ (by with_reducible assumption) (by with_reducible assumption) (.inr (by with_reducible assumption))] <;> (first | rfl | (have q9 := congrArg (fun x : Clu => x.mup) (hZ.fin (by omega)); exact q9)); done)
    | (rw [activ_9i (c := c) ⟨⟨(by with_reducible assumption), (by with_reducible assumption), (by first | omega | exact act_lt (by with_reducible assumption) (by with_reducible assumption) | exact act_lt (by with_reducible assumption) (by omega))⟩, (by first | with_reducible assumption | (simp only [masters_iff]; simp only [decide_eq_true_eq, decide_eq_false_iff_not]; omega)), (by with_reducible assumption), (by first | with_reducible assumption | omega), (by with_reducible assumption)⟩ (by with_reducible assumption) (by with_reducible assumption) (.inl (by with_reducible assumption))] <;> (first | rfl | (have q9 := congrArg (fun x : Clu => x.plcs) (hZ.fin (by omega)); exact q9)); done)
    | (rw [activ_9i (c := c) ⟨⟨(by with_reducible assumption), (by with_reducible assumption), (by first | omega | exact act_lt (by with_reducible assumption) (by with_reducible assumption) | exact act_lt (by with_reducible assumption) (by omega))⟩, (by first | with_reducible assumption | (simp only [masters_iff]; simp only [decide_eq_true_eq, decide_eq_false_iff_not]; omega)), (by with_reducible assumption), (by first | with_reducible assumption | omega), (by with_reducible assumption)⟩ (by with_reducible assumption) (by with_reducible assumption) (.inr (by with_reducible assumption))] <;> (first | rfl | (have q9 := congrArg (fun x : Clu => x.plcs) (hZ.fin (by omega)); exact q9)); done)
    | fail)
end
section
attribute [local go_sem] mdG_eq mdM toNat_pred setI List.length_set mdL_eq E.b_rem
theorem alive_s (c : Clu) (hB : CluB c) (hv : validClu c = true) : Fn Go.Proofs.Tryz.prog 162 [.a (eClu false c)] [.a [.d, .d, .d, .d, .d, .d, .d, .d, .d, .d]] [.c (.s true 1 ((aliveS c).map eInt))] := by
  refine E.Fn.ev (n := 9) mdL false mix Go.Proofs.Tryz.func162 rfl (by simp [Go.Proofs.Tryz.f162]) Go.Proofs.Tryz.ntmps162 (by simp) (by kernel_rfl) (rs := [.tmp 2]) (tys := [23]) rfl rfl (by simp [finOK, A.ts, OWN, ownE, ownT]) (by simp [resOK, A.ts, OWN, ownE, ownT, DE]) ?_
  simp only [go_sem]
  repeat' (first
    | simp only [IJS]
    | (refine E.CALL.use (ups_s _ ?_) ?_ <;> (try simp only [go_sem]))
    | (refine E.CALL.use (mside_s _ ?_) ?_ <;> (try simp only [go_sem]))
    | (refine E.CALL.use (common_s _ _ ?_ ?_) ?_ <;> (try simp only [go_sem]))
    | exact E.INDEP.mk2 (by kernel_rfl)
    | apply And.intro
    | omega
    | refine congrArg (List.map _) ?_
    | (rw [alive_eq hv]; done)
    | (have q := mside_len c.sides; have q2 := areSides_len (validClu_of hv).2.2.2.1; omega; done)
    | (exact where_len hB; done)
    | fail)
theorem where1b_i  (c : Clu) (p : Int → Srv → Bool) (f : Nat) (q1 : Nat) (e1 : List (List T)) (hB : CluB c) (hp : ∀ (i : Nat), i < c.srvs.length → Fn Go.Proofs.Tryz.prog f [.c (.v (vi i)), .a (eSrv false (at' c.srvs i)), .q q1 e1 0 0] [.c .d, .a [.d, .d, .d, .d, .d, .d, .d, .d, .d, .d, .d, .d], .q q1 e1 0 0] [.c (.v (.bool (p i (at' c.srvs i))))]) : Fn Go.Proofs.Tryz.prog 171 [.a (eClu false c), .f f [.q q1 e1 0 0]] [.a [.d, .d, .d, .d, .d, .d, .d, .d, .d, .d], .f f [.q q1 e1 0 0]] [.c (.s true 1 ((srvsWhere c p).map eInt))] := by
  refine E.Fn.ev (n := 31) mdL false mix Go.Proofs.Tryz.func171 rfl (by simp [Go.Proofs.Tryz.f171]) Go.Proofs.Tryz.ntmps171 (by simp) (by kernel_rfl) (rs := [.tmp 4]) (tys := [23]) rfl rfl (by simp [finOK, A.ts, OWN, ownE, ownT]) (by simp [resOK, A.ts, OWN, ownE, ownT, DE]) ?_
  simp only [go_sem]
  repeat' (first
    | simp only [IJS]
    | (refine E.CALL.use (hp _ ?_) ?_ <;> (try simp only [go_sem]))
    | (refine E.CALL.use (validClu_i _ ?_) ?_ <;> (try simp only [go_sem]))
    | (refine E.GB.use (fun h => ?_) (fun h => ?_) <;> (simp only [go_sem, h]) <;> (try simp only [HFS] at h))
    | exact E.RK.mk (by kernel_rfl)
    | (refine E.IX_map ?_ (fun hx => ?_); rotate_left; simp only [go_sem])
    | (refine E.loopR (ι := Nat × List Int) 5 rfl (fun ⟨i, out⟩ => [(.s 16, .v (.c (.v (vi i)))), (.s 5, .v (.c (.r (8, 0) 0 [] 0 (out).length))), (.k (8, 0), .e ⟨0, 1, (out).map eInt⟩)]) [1, 4, 14, 15, 30] [(8, 0)] [] (fun ⟨i, out⟩ => c.srvs.length - i) (fun ⟨i, out⟩ => i ≤ c.srvs.length ∧ out.length ≤ i ∧ out ++ whereGo p i (c.srvs.drop i) = srvsWhere c p) mix (by kernel_rfl) (0, []) ?_ ?_ (fun ⟨i, out⟩ ⟨hi, ho, hR⟩ => ?_); all_goals (try simp (maxSteps := 900000) only [go_sem]); all_goals (try dsimp only at hi ho hR))
    | (refine E.NEXT.use [] (i + 1, out) ?_ ?_ ?_; rotate_left 2; focus (simp (maxSteps := 900000) only [go_sem]; (repeat' (first | with_reducible rfl | exact E.RK.mk (by kernel_rfl) | apply And.intro | (push_cast; with_reducible rfl) | (refine E.int_c ?_; omega) | (simp only [go_sem]; done) | (rw [List.map_append]; rfl) | (simp; done) | (simp only [*]; done) | fail)); done))
    | (refine E.NEXT.use [((8, 0), (28, 0))] (i + 1, out ++ [(i : Int)]) ?_ ?_ ?_; rotate_left 2; focus (simp (maxSteps := 900000) only [go_sem]; (repeat' (first | with_reducible rfl | exact E.RK.mk (by kernel_rfl) | apply And.intro | (push_cast; with_reducible rfl) | (refine E.int_c ?_; omega) | (simp only [go_sem]; done) | (rw [List.map_append]; rfl) | (simp; done) | (simp only [*]; done) | fail)); done))
    | apply And.intro
    | omega
    | (simp only [List.length_take, List.length_drop, List.length_append, List.length_set, List.length_cons, List.length_nil]; omega)
    | refine congrArg (List.map _) ?_
    | (have q := CluB.sl hB; omega; done)
    | (rw [drop_at (l := c.srvs) (i := i) (by omega)] at hR; simp only [h, whereGo, if_true, if_false, Bool.false_eq_true] at hR; simpa using hR; done)
    | (rw [E.drop_end (l := c.srvs) (i := i) (by omega)] at hR; simpa [whereGo] using hR; done)
    | (simp [srvsWhere, *]; done)
    | fail)
theorem nxU_c (i : Int) (s : Srv) (c : Clu) (hl : c.srvs.length = 5) (hs : c.sides.length = 5) (hm : 0 ≤ i ∧ i ≤ 4) : Fn Go.Proofs.Tryz.prog 172 [.c (.v (vi i)), .a (eSrv false s), .q 10 [eClu false c] 0 0] [.c .d, .a [.d, .d, .d, .d, .d, .d, .d, .d, .d, .d, .d, .d], .q 10 [eClu false c] 0 0] [.c (.v (.bool (usable c i)))] := by
  refine E.Fn.ev (n := 9) mdL false mix Go.Proofs.Tryz.func172 rfl (by simp [Go.Proofs.Tryz.f172]) Go.Proofs.Tryz.ntmps172 (by simp) (by kernel_rfl) (rs := [.tmp 5]) (tys := [4]) rfl rfl (by simp [finOK, A.ts, OWN, ownE, ownT]) (by simp [resOK, A.ts, OWN, ownE, ownT, DE]) ?_
  simp only [go_sem]
  repeat' (first
    | simp only [IJS]
    | (refine E.CALL.use (usable_i _ _ ?_ ?_ ?_) ?_ <;> (try simp only [go_sem]))
    | apply And.intro
    | omega
    | fail)
theorem nxK_c (id : Int) (c : Clu) (x : Conf) (hl : c.srvs.length = 5) (hs : c.sides.length = 5) (hm : 0 ≤ id ∧ id ≤ 4) : Fn Go.Proofs.Tryz.prog 174 [.c (.v (vi id)), .q 10 [eClu false c] 0 0, .q 4 [eConf false x] 0 0] [.c .d, .q 10 [eClu false c] 0 0, .q 4 [eConf false x] 0 0] [.c (.v (.bool (!usable c id || ((srvAt c id).conf.epoch != x.epoch))))] := by
  refine E.Fn.ev (n := 21) mdL false mix Go.Proofs.Tryz.func174 rfl (by simp [Go.Proofs.Tryz.f174]) Go.Proofs.Tryz.ntmps174 (by simp) (by kernel_rfl) (rs := [.tmp 4]) (tys := [4]) rfl rfl (by simp [finOK, A.ts, OWN, ownE, ownT]) (by simp [resOK, A.ts, OWN, ownE, ownT, DE]) ?_
  simp only [go_sem]
  repeat' (first
    | simp only [IJS]
    | (refine E.CALL.use (usable_i _ _ ?_ ?_ ?_) ?_ <;> (try simp only [go_sem]))
    | (refine E.GB.use (fun h => ?_) (fun h => ?_) <;> (simp only [go_sem, h]) <;> (try simp only [HFS] at h))
    | exact E.INDEP.mk2 (by kernel_rfl)
    | (refine E.IX_map ?_ (fun hx => ?_); rotate_left; simp only [go_sem])
    | apply And.intro
    | omega
    | (unfold srvAt; simp [*]; done)
    | fail)
theorem nxWhere (c : Clu) (hB : CluB c) (hv : validClu c = true) : Fn Go.Proofs.Tryz.prog 171 [.a (eClu false c), .f 172 [.q 10 [eClu false c] 0 0]] [.a [.d, .d, .d, .d, .d, .d, .d, .d, .d, .d], .f 172 [.q 10 [eClu false c] 0 0]] [.c (.s true 1 ((aliveS c).map eInt))] := by
  rw [← alive_where hv]
  exact where1b_i c (fun i _ => usable c i) 172 10 [eClu false c] hB (fun i h => nxU_c i (at' c.srvs i) c (validClu_of hv).2.2.1 (areSides_len (validClu_of hv).2.2.2.1) (by have := (validClu_of hv).2.2.1; omega))
theorem la_rep {c : Clu} {x : Int} (h : x ∈ (lastAct c.mast).1.reps) : 0 ≤ x ∧ x ≤ 4 := by
  by_cases h2 : (lastAct c.mast).2 = true
  · exact conf_rep (lastAct_of h2).2.2.2.1 h
  · have e : (lastAct c.mast).1 = noConf := (la_none c.mast).1.2 (fun h3 => h2 ((la_none c.mast).2.2 h3))
    rw [e] at h; simp [noConf] at h
theorem nxKept (c : Clu) (hv : validClu c = true) : Fn Go.Proofs.Tryz.prog 173 [.c (.s true 1 ((lastAct c.mast).1.reps.map eInt)), .f 174 [.q 10 [eClu false c] 0 0, .q 4 [eConf false (lastAct c.mast).1] 0 0]] [.c .d, .f 174 [.q 10 [eClu false c] 0 0, .q 4 [eConf false (lastAct c.mast).1] 0 0]] [.c (.s true 1 ((keptS c).map eInt))] := by
  rw [← kept_eq c]
  exact delF_I2 (lastAct c.mast).1.reps (fun id => !usable c id || ((srvAt c id).conf.epoch != (lastAct c.mast).1.epoch)) 174 10 [eClu false c] 4 [eConf false (lastAct c.mast).1] (Nat.le_trans (la_len c.mast).1 (by decide)) (fun id h => nxK_c id c (lastAct c.mast).1 (validClu_of hv).2.2.1 (areSides_len (validClu_of hv).2.2.2.1) (la_rep h))
theorem nextC_s (c : Clu) (want : Int) (wits : Int) (hB : CluB c) : Fn Go.Proofs.Tryz.prog 75 [.a (eClu false c), .c (.v (vi want)), .c (.v (vi wits))] [.a [.d, .d, .d, .d, .d, .d, .d, .d, .d, .d], .c .d, .c .d] [.a (eConf true ((nextC c want wits).1)), .c (.v (.bool ((nextC c want wits).2)))] := by
  refine E.Fn.evR (n := 132) Go.Proofs.Tryz.func75 rfl (by simp [Go.Proofs.Tryz.f75]) Go.Proofs.Tryz.ntmps75 (by simp) (rs := [.cell 6 60, .tmp 7]) (tys := [60, 4]) rfl rfl (by simp [finOK, A.ts, OWN, ownE, ownT]) (by simp [resOK, A.ts, OWN, ownE, ownT, DE]) (fun H => ?_)
  simp only [go_sem]
  repeat' (first
    | simp only [IJS]
    | (refine E.CALL.use (without_s [0, 1, 2, 3, 4] (aliveS c) ?_ ?_) ?_ <;> (try simp only [go_sem]))
    | (refine E.CALL.use (validClu_s_B _ ?_) ?_ <;> (try simp only [go_sem]))
    | (refine E.CALL.use (in_s _ _ _) ?_ <;> (try simp only [go_sem]))
    | (refine E.CALL.use (alive_s _ ?_ ?_) ?_ <;> (try simp only [go_sem]))
    | (refine E.CALL.use (lastAct_s_B _ ?_) ?_ <;> (try simp only [go_sem]))
    | (refine E.CALL.use (has_s _ _ ?_) ?_ <;> (try simp only [go_sem]))
    | (refine E.CALL.use (plan_s _ _ _ _ ?_ ?_ ?_) ?_ <;> (try simp only [go_sem]))
    | (refine E.CALL.use (none_s_B _ ?_) ?_ <;> (try simp only [go_sem]))
    | (refine E.CALL.use (spare_s_c _ _ _ ?_ ?_ ?_) ?_ <;> (try simp only [go_sem]))
    | (refine E.evh_raw (id := 14) (m := 12) mdL false 104 2 (89, 0) mix rfl rfl (by rfl) (by decide) (by decide) (by decide) (by kernel_rfl) ?_; dsimp only [List.take]; simp only [go_sem])
    | exact E.INDL.mk (by kernel_rfl)
    | exact Raw.one (by with_reducible assumption)
    | (apply E.RAWI.use (t := 104) (j := 2) (k := (89, 0)); exact rfl; exact rfl; exact rfl; (first | rfl | simp); (intro x hd hx; have hq := hx.one; simp only [go_sem]))
    | (refine E.evh_seq ?_; refine E.evh_conv (id := 21) mdL false 1 131 [none, none, some (89, 0), none] (by rfl) ?_; dsimp only [List.take, List.drop]; simp only [go_sem])
    | (apply E.CVT.useA (t := 131); exact rfl; exact ⟨_, rfl, ⟨_, rfl, ⟨_, _, _, rfl, rfl, (by first | exact hx | (simp only [List.length_map]; exact hx)), rfl, ⟨_, rfl, rfl⟩⟩⟩⟩; simp only [go_sem])
    | (refine E.evh_ret ?_; simp only [go_sem])
    | (refine E.evh_seq ?_; refine E.evh_ev mdL false mix (by kernel_rfl) ?_; simp only [go_sem])
    | (refine E.GB.use (fun h => ?_) (fun h => ?_) <;> (simp only [go_sem, h]) <;> (try simp only [HFS] at h))
    | exact E.INDEP.mk2 (by kernel_rfl)
    | exact E.RK.mk (by kernel_rfl)
    | (refine E.IX_map ?_ (fun hx => ?_); rotate_left; simp only [go_sem])
    | (refine E.loopR (ι := Nat × List Int) 7 rfl (fun ⟨i, out⟩ => [(.s 12, .v (.c (.v (vi i)))), (.s 11, .v (.c (.r (45, 0) 0 [] 0 (out).length))), (.k (45, 0), .e ⟨0, 1, (out).map eInt⟩)]) [1, 2, 3, 6, 7, 8, 9, 13, 14, 15, 84, 85, 86, 87, 88, 89, 90, 91, 92, 93, 94, 95, 96, 97, 98, 99, 100, 101, 102, 103, 104, 105, 106, 107, 108, 109, 110, 111, 112, 113, 114, 115, 116, 117, 118, 119, 120, 121, 122, 123, 124, 125, 126, 127, 128, 129, 130, 131] [(45, 0)] [] (fun ⟨i, out⟩ => (lastAct c.mast).1.reps.length - i) (fun ⟨i, out⟩ => i ≤ (lastAct c.mast).1.reps.length ∧ out.length ≤ i ∧ out ++ ((lastAct c.mast).1.reps.drop i).filter (keepF c) = keptS c) mix (by kernel_rfl) (0, []) ?_ ?_ (fun ⟨i, out⟩ ⟨hi, ho, hR⟩ => ?_); all_goals (try simp (maxSteps := 900000) only [go_sem]); all_goals (try dsimp only at hi ho hR))
    | (refine E.NEXT.use [] (i + 1, out) ?_ ?_ ?_; rotate_left 2; focus (simp (maxSteps := 900000) only [go_sem]; (repeat' (first | with_reducible rfl | exact E.RK.mk (by kernel_rfl) | apply And.intro | (push_cast; with_reducible rfl) | (refine E.int_c ?_; omega) | (simp only [go_sem]; done) | (rw [List.map_append]; rfl) | (simp; done) | (simp only [*]; done) | fail)); done))
    | (refine E.NEXT.use [((45, 0), (83, 0))] (i + 1, out ++ [at' (lastAct c.mast).1.reps i]) ?_ ?_ ?_; rotate_left 2; focus (simp (maxSteps := 900000) only [go_sem]; (repeat' (first | with_reducible rfl | exact E.RK.mk (by kernel_rfl) | apply And.intro | (push_cast; with_reducible rfl) | (refine E.int_c ?_; omega) | (simp only [go_sem]; done) | (rw [List.map_append]; rfl) | (simp; done) | (simp only [*]; done) | fail)); done))
    | (have e : out = keptS c := (by rw [E.drop_end (l := (lastAct c.mast).1.reps) (i := i) (by omega)] at hR; simpa using hR); subst e)
    | apply And.intro
    | omega
    | (simp only [List.length_take, List.length_drop, List.length_append, List.length_set, List.length_cons, List.length_nil]; omega)
    | refine congrArg (List.map _) ?_
    | (have q := hB.m.len; omega; done)
    | (have q := la_rep (c := c) (E.at_mem (l := (lastAct c.mast).1.reps) (i := i) (by omega)); have q2 := validClu_of (c := c) (by with_reducible assumption); omega; done)
    | (have q := kept_len c; omega; done)
    | (have q := areServers_len (alive_srv (c := c) (by with_reducible assumption)); omega; done)
    | (have q := plan_len c.plcs (keptS c) (aliveS c) want; omega; done)
    | (have q := without_len [0, 1, 2, 3, 4] (aliveS c); simp at q; omega; done)
    | (have q := (la_len c.mast).1; omega; done)
    | (rw [nextC_n (.inl (by with_reducible assumption))]; done)
    | (rw [nextC_n (.inr (.inl (by with_reducible assumption)))]; done)
    | (rw [nextC_n (.inr (.inr (.inl (by with_reducible assumption))))]; done)
    | (rw [nextC_n (.inr (.inr (.inr (by omega))))]; done)
    | (rw [nextC_0 ⟨(by with_reducible assumption), (by with_reducible assumption), (by with_reducible assumption), (by first | omega | (have q := (isML_of (validClu_of (c := c) (by with_reducible assumption)).2.2.2.2.1).1; omega))⟩ (by first | with_reducible assumption | omega)]; done)
    | (rw [nextC_n (.inl (by with_reducible assumption))] <;> rfl; done)
    | (rw [nextC_n (.inr (.inl (by with_reducible assumption)))] <;> rfl; done)
    | (rw [nextC_n (.inr (.inr (.inl (by with_reducible assumption))))] <;> rfl; done)
    | (rw [nextC_n (.inr (.inr (.inr (by omega))))] <;> rfl; done)
    | (rw [nextC_0 ⟨(by with_reducible assumption), (by with_reducible assumption), (by with_reducible assumption), (by first | omega | (have q := (isML_of (validClu_of (c := c) (by with_reducible assumption)).2.2.2.2.1).1; omega))⟩ (by first | with_reducible assumption | omega)] <;> rfl; done)
    | (rw [(nextC_t ⟨(by with_reducible assumption), (by with_reducible assumption), (by with_reducible assumption), (by first | omega | (have q := (isML_of (validClu_of (c := c) (by with_reducible assumption)).2.2.2.2.1).1; omega))⟩ (by first | with_reducible assumption | omega)).1]; done)
    | (rw [(nextC_t ⟨(by with_reducible assumption), (by with_reducible assumption), (by with_reducible assumption), (by first | omega | (have q := (isML_of (validClu_of (c := c) (by with_reducible assumption)).2.2.2.2.1).1; omega))⟩ (by first | with_reducible assumption | omega)).2.1]; done)
    | (rw [(nextC_t ⟨(by with_reducible assumption), (by with_reducible assumption), (by with_reducible assumption), (by first | omega | (have q := (isML_of (validClu_of (c := c) (by with_reducible assumption)).2.2.2.2.1).1; omega))⟩ (by first | with_reducible assumption | omega)).2.2] <;> rfl; done)
    | (exact nextC_p1 ⟨(by with_reducible assumption), (by with_reducible assumption), (by with_reducible assumption), (by first | omega | (have q := (isML_of (validClu_of (c := c) (by with_reducible assumption)).2.2.2.2.1).1; omega))⟩ (by first | with_reducible assumption | omega) (by first | omega | exact Classical.byContradiction (fun q => (by with_reducible assumption : ¬ (lastAct c.mast).1 = noConf) ((la_none c.mast).1.2 q)) | exact Classical.byContradiction (fun q => absurd ((la_none c.mast).1.2 q) (by simpa using (by with_reducible assumption : decide ((lastAct c.mast).1 = noConf) = false)))) (by with_reducible assumption); done)
    | (exact nextC_p2 ⟨(by with_reducible assumption), (by with_reducible assumption), (by with_reducible assumption), (by first | omega | (have q := (isML_of (validClu_of (c := c) (by with_reducible assumption)).2.2.2.2.1).1; omega))⟩ (by first | with_reducible assumption | omega) (.inl (by first | omega | exact (la_none c.mast).1.1 (by with_reducible assumption))); done)
    | (exact nextC_p2 ⟨(by with_reducible assumption), (by with_reducible assumption), (by with_reducible assumption), (by first | omega | (have q := (isML_of (validClu_of (c := c) (by with_reducible assumption)).2.2.2.2.1).1; omega))⟩ (by first | with_reducible assumption | omega) (.inr (by with_reducible assumption)); done)
    | (rw [← nextC_w1 ⟨(by with_reducible assumption), (by with_reducible assumption), (by with_reducible assumption), (by first | omega | (have q := (isML_of (validClu_of (c := c) (by with_reducible assumption)).2.2.2.2.1).1; omega))⟩ (by first | with_reducible assumption | omega) (by omega) (by first | with_reducible assumption | omega)] <;> rfl; done)
    | (rw [← nextC_w2 ⟨(by with_reducible assumption), (by with_reducible assumption), (by with_reducible assumption), (by first | omega | (have q := (isML_of (validClu_of (c := c) (by with_reducible assumption)).2.2.2.2.1).1; omega))⟩ (by first | with_reducible assumption | omega) (.inl (by first | with_reducible assumption | omega))] <;> rfl; done)
    | (rw [← nextC_w2 ⟨(by with_reducible assumption), (by with_reducible assumption), (by with_reducible assumption), (by first | omega | (have q := (isML_of (validClu_of (c := c) (by with_reducible assumption)).2.2.2.2.1).1; omega))⟩ (by first | with_reducible assumption | omega) (.inr (by first | with_reducible assumption | omega))] <;> rfl; done)
    | (exact CluB.m (by assumption); done)
    | (exact CluB.pl (by assumption); done)
    | (exact (CluB.m (by assumption)).la; done)
    | ((rw [drop_at (l := (lastAct c.mast).1.reps) (i := i) (by omega)] at hR; have g : keepF c (at' (lastAct c.mast).1.reps i) = true := (by have q := alive_in (c := c) (z := at' (lastAct c.mast).1.reps i) (by with_reducible assumption); have q2 := la_rep (c := c) (E.at_mem (l := (lastAct c.mast).1.reps) (i := i) (by omega)); rw [inR_iff.2 q2, Bool.true_and] at q; unfold keepF srvAt; rw [← q]; rw [(by with_reducible assumption : (aliveS c).contains (at' (lastAct c.mast).1.reps i) = true), Bool.true_and, beq_iff_eq]; with_reducible assumption); simp only [List.filter_cons, g, if_true, if_false, Bool.false_eq_true] at hR; simpa using hR); done)
    | ((rw [drop_at (l := (lastAct c.mast).1.reps) (i := i) (by omega)] at hR; have g : keepF c (at' (lastAct c.mast).1.reps i) = false := (by have q := alive_in (c := c) (z := at' (lastAct c.mast).1.reps i) (by with_reducible assumption); have q2 := la_rep (c := c) (E.at_mem (l := (lastAct c.mast).1.reps) (i := i) (by omega)); rw [inR_iff.2 q2, Bool.true_and] at q; unfold keepF srvAt; rw [← q]; rw [(by with_reducible assumption : (aliveS c).contains (at' (lastAct c.mast).1.reps i) = false), Bool.false_and]); simp only [List.filter_cons, g, if_true, if_false, Bool.false_eq_true] at hR; simpa using hR); done)
    | ((rw [drop_at (l := (lastAct c.mast).1.reps) (i := i) (by omega)] at hR; have g : keepF c (at' (lastAct c.mast).1.reps i) = false := (by have q := alive_in (c := c) (z := at' (lastAct c.mast).1.reps i) (by with_reducible assumption); have q2 := la_rep (c := c) (E.at_mem (l := (lastAct c.mast).1.reps) (i := i) (by omega)); rw [inR_iff.2 q2, Bool.true_and] at q; unfold keepF srvAt; rw [← q]; rw [(by with_reducible assumption : (aliveS c).contains (at' (lastAct c.mast).1.reps i) = true), Bool.true_and, beq_eq_false_iff_ne]; with_reducible assumption); simp only [List.filter_cons, g, if_true, if_false, Bool.false_eq_true] at hR; simpa using hR); done)
    | (rfl; done)
    | fail)
theorem nextC_i (c : Clu) (want : Int) (wits : Int) (hB : CluB c) : Fn Go.Proofs.Tryz.prog 82 [.a (eClu false c), .c (.v (vi want)), .c (.v (vi wits))] [.a [.d, .d, .d, .d, .d, .d, .d, .d, .d, .d], .c .d, .c .d] [.a (eConf true ((nextC c want wits).1)), .c (.v (.bool ((nextC c want wits).2)))] := by
  refine E.Fn.ev (n := 102) mdL false mix Go.Proofs.Tryz.func82 rfl (by simp [Go.Proofs.Tryz.f82]) Go.Proofs.Tryz.ntmps82 (by simp) (by kernel_rfl) (rs := [.cell 6 60, .tmp 7]) (tys := [60, 4]) rfl rfl (by simp [finOK, A.ts, OWN, ownE, ownT]) (by simp [resOK, A.ts, OWN, ownE, ownT, DE]) ?_
  simp only [go_sem]
  repeat' (first
    | simp only [IJS]
    | (refine E.CALL.use (without_i [0, 1, 2, 3, 4] (aliveS c) ?_ ?_) ?_ <;> (try simp only [go_sem]))
    | (refine E.CALL.use (nxWhere c hB ?_) ?_ <;> (try simp only [go_sem]))
    | (refine E.CALL.use (nxKept c ?_) ?_ <;> (try simp only [go_sem]))
    | (refine E.CALL.use (validClu_i _ ?_) ?_ <;> (try simp only [go_sem]))
    | (refine E.CALL.use (in_i _ _ _) ?_ <;> (try simp only [go_sem]))
    | (refine E.CALL.use (lastAct_i_B _ ?_) ?_ <;> (try simp only [go_sem]))
    | (refine E.CALL.use (clone_c _ ?_) ?_ <;> (try simp only [go_sem]))
    | (refine E.CALL.use (plan_i _ _ _ _ ?_ ?_ ?_) ?_ <;> (try simp only [go_sem]))
    | (refine E.CALL.use (has_i _ _ ?_) ?_ <;> (try simp only [go_sem]))
    | (refine E.CALL.use (allSrv_i) ?_ <;> (try simp only [go_sem]))
    | (refine E.CALL.use (spare_i_c _ _ _ ?_ ?_ ?_) ?_ <;> (try simp only [go_sem]))
    | (refine E.GB.use (fun h => ?_) (fun h => ?_) <;> (simp only [go_sem, h]) <;> (try simp only [HFS] at h))
    | exact E.INDEP.mk2 (by kernel_rfl)
    | (refine E.IX_map ?_ (fun hx => ?_); rotate_left; simp only [go_sem])
    | apply And.intro
    | omega
    | refine congrArg (List.map _) ?_
    | (have q := kept_len c; omega; done)
    | (have q := areServers_len (alive_srv (c := c) (by with_reducible assumption)); omega; done)
    | (have q := plan_len c.plcs (keptS c) (aliveS c) want; omega; done)
    | (have q := without_len [0, 1, 2, 3, 4] (aliveS c); simp at q; omega; done)
    | (have q := (la_len c.mast).1; omega; done)
    | (rw [nextC_n (.inl (by with_reducible assumption))]; done)
    | (rw [nextC_n (.inr (.inl (by with_reducible assumption)))]; done)
    | (rw [nextC_n (.inr (.inr (.inl (by with_reducible assumption))))]; done)
    | (rw [nextC_n (.inr (.inr (.inr (by omega))))]; done)
    | (rw [nextC_0 ⟨(by with_reducible assumption), (by with_reducible assumption), (by with_reducible assumption), (by first | omega | (have q := (isML_of (validClu_of (c := c) (by with_reducible assumption)).2.2.2.2.1).1; omega))⟩ (by first | with_reducible assumption | omega)]; done)
    | (rw [nextC_n (.inl (by with_reducible assumption))] <;> rfl; done)
    | (rw [nextC_n (.inr (.inl (by with_reducible assumption)))] <;> rfl; done)
    | (rw [nextC_n (.inr (.inr (.inl (by with_reducible assumption))))] <;> rfl; done)
    | (rw [nextC_n (.inr (.inr (.inr (by omega))))] <;> rfl; done)
    | (rw [nextC_0 ⟨(by with_reducible assumption), (by with_reducible assumption), (by with_reducible assumption), (by first | omega | (have q := (isML_of (validClu_of (c := c) (by with_reducible assumption)).2.2.2.2.1).1; omega))⟩ (by first | with_reducible assumption | omega)] <;> rfl; done)
    | (rw [(nextC_t ⟨(by with_reducible assumption), (by with_reducible assumption), (by with_reducible assumption), (by first | omega | (have q := (isML_of (validClu_of (c := c) (by with_reducible assumption)).2.2.2.2.1).1; omega))⟩ (by first | with_reducible assumption | omega)).1]; done)
    | (rw [(nextC_t ⟨(by with_reducible assumption), (by with_reducible assumption), (by with_reducible assumption), (by first | omega | (have q := (isML_of (validClu_of (c := c) (by with_reducible assumption)).2.2.2.2.1).1; omega))⟩ (by first | with_reducible assumption | omega)).2.1]; done)
    | (rw [(nextC_t ⟨(by with_reducible assumption), (by with_reducible assumption), (by with_reducible assumption), (by first | omega | (have q := (isML_of (validClu_of (c := c) (by with_reducible assumption)).2.2.2.2.1).1; omega))⟩ (by first | with_reducible assumption | omega)).2.2] <;> rfl; done)
    | (exact nextC_p1 ⟨(by with_reducible assumption), (by with_reducible assumption), (by with_reducible assumption), (by first | omega | (have q := (isML_of (validClu_of (c := c) (by with_reducible assumption)).2.2.2.2.1).1; omega))⟩ (by first | with_reducible assumption | omega) (by first | omega | exact Classical.byContradiction (fun q => (by with_reducible assumption : ¬ (lastAct c.mast).1 = noConf) ((la_none c.mast).1.2 q)) | exact Classical.byContradiction (fun q => absurd ((la_none c.mast).1.2 q) (by simpa using (by with_reducible assumption : decide ((lastAct c.mast).1 = noConf) = false)))) (by with_reducible assumption); done)
    | (exact nextC_p2 ⟨(by with_reducible assumption), (by with_reducible assumption), (by with_reducible assumption), (by first | omega | (have q := (isML_of (validClu_of (c := c) (by with_reducible assumption)).2.2.2.2.1).1; omega))⟩ (by first | with_reducible assumption | omega) (.inl (by first | omega | exact (la_none c.mast).1.1 (by with_reducible assumption))); done)
    | (exact nextC_p2 ⟨(by with_reducible assumption), (by with_reducible assumption), (by with_reducible assumption), (by first | omega | (have q := (isML_of (validClu_of (c := c) (by with_reducible assumption)).2.2.2.2.1).1; omega))⟩ (by first | with_reducible assumption | omega) (.inr (by with_reducible assumption)); done)
    | (rw [← nextC_w1 ⟨(by with_reducible assumption), (by with_reducible assumption), (by with_reducible assumption), (by first | omega | (have q := (isML_of (validClu_of (c := c) (by with_reducible assumption)).2.2.2.2.1).1; omega))⟩ (by first | with_reducible assumption | omega) (by omega) (by first | with_reducible assumption | omega)] <;> rfl; done)
    | (rw [← nextC_w2 ⟨(by with_reducible assumption), (by with_reducible assumption), (by with_reducible assumption), (by first | omega | (have q := (isML_of (validClu_of (c := c) (by with_reducible assumption)).2.2.2.2.1).1; omega))⟩ (by first | with_reducible assumption | omega) (.inl (by first | with_reducible assumption | omega))] <;> rfl; done)
    | (rw [← nextC_w2 ⟨(by with_reducible assumption), (by with_reducible assumption), (by with_reducible assumption), (by first | omega | (have q := (isML_of (validClu_of (c := c) (by with_reducible assumption)).2.2.2.2.1).1; omega))⟩ (by first | with_reducible assumption | omega) (.inr (by first | with_reducible assumption | omega))] <;> rfl; done)
    | (exact CluB.m (by assumption); done)
    | (exact CluB.pl (by assumption); done)
    | (rfl; done)
    | fail)
end
section
attribute [local irreducible] activ renew proposeN passTime nextC commitP switchP repairG
attribute [local go_sem] mdG_eq mdM toNat_pred setI List.length_set mdL_eq E.b_rem
theorem repairG_5r {c : Clu} {w t n : Int} (h : RepC c w t) (h3 : (proposeN c (nextC c w 0).1).2 = 0) (h4 : ¬ (passTime (proposeN c (nextC c w 0).1).1 n).2 = 0) (hn : n = max 0 (safeTime c.lse - c.now)) : repairG c w t = (c, (passTime (proposeN c (nextC c w 0).1).1 n).2) := repairG_5 h h3 hn h4
theorem repairG_6r {c : Clu} {w t n : Int} (h : RepC c w t) (h3 : (proposeN c (nextC c w 0).1).2 = 0) (h4 : (passTime (proposeN c (nextC c w 0).1).1 n).2 = 0) (h5 : ¬ (activ (passTime (proposeN c (nextC c w 0).1).1 n).1).2 = 0) (hn : n = max 0 (safeTime c.lse - c.now)) : repairG c w t = activ (passTime (proposeN c (nextC c w 0).1).1 n).1 := repairG_6 h h3 hn h4 h5
theorem repairG_7r {c : Clu} {w t n : Int} (h : RepC c w t) (h3 : (proposeN c (nextC c w 0).1).2 = 0) (h4 : (passTime (proposeN c (nextC c w 0).1).1 n).2 = 0) (h5 : (activ (passTime (proposeN c (nextC c w 0).1).1 n).1).2 = 0) (hn : n = max 0 (safeTime c.lse - c.now)) : repairG c w t = renew (activ (passTime (proposeN c (nextC c w 0).1).1 n).1).1 (nextC c w 0).1.primary t := repairG_7 h h3 hn h4 h5
theorem max_if (a : Int) : (if a > 0 then a else 0) = max 0 a := by
  rw [Int.max_def]; split <;> split <;> omega
theorem max_ifp (c : Clu) (x : Conf) : (if safeTime (proposeN c x).1.lse - (proposeN c x).1.now > 0 then safeTime (proposeN c x).1.lse - (proposeN c x).1.now else 0) = max 0 (safeTime c.lse - c.now) := by
  rw [max_if, (propN_lse c x).1, (propN_lse c x).2]
theorem repairG_s (c : Clu) (want : Int) (term : Int) (hB : CluB c) : Fn Go.Proofs.Tryz.prog 16 [.a (eClu false c), .c (.v (vi want)), .c (.v (vi term))] [.a [.d, .d, .d, .d, .d, .d, .d, .d, .d, .d], .c .d, .c .d] [.a (eClu true ((repairG c want term).1)), .c (.v (vi ((repairG c want term).2)))] := by
  refine E.Fn.ev (n := 85) mdL false mix Go.Proofs.Tryz.func16 rfl (by simp [Go.Proofs.Tryz.f16]) Go.Proofs.Tryz.ntmps16 (by simp) (by kernel_rfl) (rs := [.cell 6 40, .tmp 7]) (tys := [40, 3]) rfl rfl (by simp [finOK, A.ts, OWN, ownE, ownT]) (by simp [resOK, A.ts, OWN, ownE, ownT, DE]) ?_
  simp only [go_sem]
  repeat' (first
    | simp only [IJS]
    | (refine E.CALL.use (copyU_s_B _ ?_) ?_ <;> (try simp only [go_sem]))
    | (refine E.CALL.use (validClu_s_B _ ?_) ?_ <;> (try simp only [go_sem]))
    | (refine E.CALL.use (in_s _ _ _) ?_ <;> (try simp only [go_sem]))
    | (refine E.CALL.use (isServ_s _ ?_) ?_ <;> (try simp only [go_sem]))
    | (refine E.CALL.use (nextC_s _ _ _ ?_) ?_ <;> (try simp only [go_sem]))
    | (refine E.CALL.use (propN_s _ _ ?_ ?_) ?_ <;> (try simp only [go_sem]))
    | (refine E.CALL.use (safe_s _) ?_ <;> (try simp only [go_sem]))
    | (refine E.CALL.use (passTime_s _ _ ?_) ?_ <;> (try simp only [go_sem]))
    | (refine E.CALL.use (activ_s _ ?_) ?_ <;> (try simp only [go_sem]))
    | (refine E.CALL.use (renew_s _ _ _ ?_) ?_ <;> (try simp only [go_sem]))
    | (refine E.GB.use (fun h => ?_) (fun h => ?_) <;> (simp only [go_sem, h]) <;> (try simp only [HFS] at h))
    | exact E.INDEP.mk2 (by kernel_rfl)
    | apply And.intro
    | omega
    | refine congrArg (List.map _) ?_
    | (exact propN_B hB (nextC_B _ _ _); done)
    | (exact nextC_B _ _ _; done)
    | (exact passTime_B (propN_B hB (nextC_B _ _ _)); done)
    | (exact activ_B (passTime_B (propN_B hB (nextC_B _ _ _))); done)
    | (have q := lse_til (c := c) (by with_reducible assumption); have q2 := validClu_of (c := c) (by with_reducible assumption); have q3 : 0 ≤ safeTime c.lse ∧ safeTime c.lse ≤ 1052 := (by unfold safeTime; split <;> omega); omega; done)
    | (rw [repairG_1a (by with_reducible assumption)]; done)
    | (rw [repairG_1b (by with_reducible assumption)]; done)
    | (rw [repairG_2 ⟨(by with_reducible assumption), (by with_reducible assumption)⟩ (by with_reducible assumption)]; done)
    | (rw [repairG_3 ⟨(by with_reducible assumption), (by with_reducible assumption)⟩ (by with_reducible assumption) (by with_reducible assumption)]; done)
    | (rw [repairG_4 ⟨⟨(by with_reducible assumption), (by with_reducible assumption)⟩, (by with_reducible assumption), (by with_reducible assumption)⟩ (by with_reducible assumption)]; done)
    | (rw [repairG_5r ⟨⟨(by with_reducible assumption), (by with_reducible assumption)⟩, (by with_reducible assumption), (by with_reducible assumption)⟩ (by with_reducible assumption) (by with_reducible assumption) (by first | exact max_if _ | exact max_ifp c _)]; done)
    | (rw [repairG_6r ⟨⟨(by with_reducible assumption), (by with_reducible assumption)⟩, (by with_reducible assumption), (by with_reducible assumption)⟩ (by with_reducible assumption) (by with_reducible assumption) (by with_reducible assumption) (by first | exact max_if _ | exact max_ifp c _)]; done)
    | (rw [repairG_7r ⟨⟨(by with_reducible assumption), (by with_reducible assumption)⟩, (by with_reducible assumption), (by with_reducible assumption)⟩ (by with_reducible assumption) (by with_reducible assumption) (by with_reducible assumption) (by first | exact max_if _ | exact max_ifp c _)]; done)
    | fail)
theorem repairG_i (c : Clu) (want : Int) (term : Int) (hB : CluB c) : Fn Go.Proofs.Tryz.prog 17 [.a (eClu false c), .c (.v (vi want)), .c (.v (vi term))] [.a [.d, .d, .d, .d, .d, .d, .d, .d, .d, .d], .c .d, .c .d] [.a (eClu true ((repairG c want term).1)), .c (.v (vi ((repairG c want term).2)))] := by
  refine E.Fn.ev (n := 79) mdL false mix Go.Proofs.Tryz.func17 rfl (by simp [Go.Proofs.Tryz.f17]) Go.Proofs.Tryz.ntmps17 (by simp) (by kernel_rfl) (rs := [.cell 6 40, .tmp 7]) (tys := [40, 3]) rfl rfl (by simp [finOK, A.ts, OWN, ownE, ownT]) (by simp [resOK, A.ts, OWN, ownE, ownT, DE]) ?_
  simp only [go_sem]
  repeat' (first
    | simp only [IJS]
    | (refine E.CALL.use (validClu_i _ ?_) ?_ <;> (try simp only [go_sem]))
    | (refine E.CALL.use (in_i _ _ _) ?_ <;> (try simp only [go_sem]))
    | (refine E.CALL.use (copyU_i_B _ ?_) ?_ <;> (try simp only [go_sem]))
    | (refine E.CALL.use (isServ_i _ ?_) ?_ <;> (try simp only [go_sem]))
    | (refine E.CALL.use (nextC_i _ _ _ ?_) ?_ <;> (try simp only [go_sem]))
    | (refine E.CALL.use (propN_i _ _ ?_ ?_) ?_ <;> (try simp only [go_sem]))
    | (refine E.CALL.use (safe_i _) ?_ <;> (try simp only [go_sem]))
    | (refine E.CALL.use (passTime_i _ _ ?_) ?_ <;> (try simp only [go_sem]))
    | (refine E.CALL.use (activ_i _ ?_) ?_ <;> (try simp only [go_sem]))
    | (refine E.CALL.use (renew_i _ _ _ ?_) ?_ <;> (try simp only [go_sem]))
    | (refine E.GB.use (fun h => ?_) (fun h => ?_) <;> (simp only [go_sem, h]) <;> (try simp only [HFS] at h))
    | exact E.INDEP.mk2 (by kernel_rfl)
    | apply And.intro
    | omega
    | refine congrArg (List.map _) ?_
    | (exact propN_B hB (nextC_B _ _ _); done)
    | (exact nextC_B _ _ _; done)
    | (exact passTime_B (propN_B hB (nextC_B _ _ _)); done)
    | (exact activ_B (passTime_B (propN_B hB (nextC_B _ _ _))); done)
    | (simp only [(propN_lse c _).1, (propN_lse c _).2]; have q := lse_til (c := c) (by with_reducible assumption); have q2 := validClu_of (c := c) (by with_reducible assumption); have q3 : 0 ≤ safeTime c.lse ∧ safeTime c.lse ≤ 1052 := (by unfold safeTime; split <;> omega); omega; done)
    | (rw [repairG_1a (by with_reducible assumption)]; done)
    | (rw [repairG_1b (by with_reducible assumption)]; done)
    | (rw [repairG_2 ⟨(by with_reducible assumption), (by with_reducible assumption)⟩ (by with_reducible assumption)]; done)
    | (rw [repairG_3 ⟨(by with_reducible assumption), (by with_reducible assumption)⟩ (by with_reducible assumption) (by with_reducible assumption)]; done)
    | (rw [repairG_4 ⟨⟨(by with_reducible assumption), (by with_reducible assumption)⟩, (by with_reducible assumption), (by with_reducible assumption)⟩ (by with_reducible assumption)]; done)
    | (rw [repairG_5r ⟨⟨(by with_reducible assumption), (by with_reducible assumption)⟩, (by with_reducible assumption), (by with_reducible assumption)⟩ (by with_reducible assumption) (by with_reducible assumption) (by first | exact max_if _ | exact max_ifp c _)]; done)
    | (rw [repairG_6r ⟨⟨(by with_reducible assumption), (by with_reducible assumption)⟩, (by with_reducible assumption), (by with_reducible assumption)⟩ (by with_reducible assumption) (by with_reducible assumption) (by with_reducible assumption) (by first | exact max_if _ | exact max_ifp c _)]; done)
    | (rw [repairG_7r ⟨⟨(by with_reducible assumption), (by with_reducible assumption)⟩, (by with_reducible assumption), (by with_reducible assumption)⟩ (by with_reducible assumption) (by with_reducible assumption) (by with_reducible assumption) (by first | exact max_if _ | exact max_ifp c _)]; done)
    | fail)
end
end Go.Abs

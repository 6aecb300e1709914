/- Contracts of functions of the program, over the abstract machine, and facts for them. No condition. -/
import Derived.Test.YtchoomlibgefbaaGreatDoorFacts
import Derived.Test.YtchoomlibgefbaaGreatDoorPure22
import Derived.Test.YtchoomlibgefbaaGreatDoorQ13
import Derived.Test.YtchoomlibgefbaaGreatDoorQ16
import Derived.Test.YtchoomlibgefbaaGreatDoorQ3
import Derived.Test.YtchoomlibgefbaaGreatDoorQ4
import Derived.Test.YtchoomlibgefbaaGreatDoorQ8
import Derived.Test.YtchoomlibgefbaaGreatDoorQ82
set_option linter.unusedVariables false
set_option linter.unusedSimpArgs false
set_option linter.unnecessarySimpa false
set_option linter.constructorNameAsVariable false
set_option maxHeartbeats 4000000
set_option maxRecDepth 100000
namespace Go.Abs
open Go
attribute [local go_sem ↓] E.argsA_h E.wq_ret E.wq_req E.wq_bad E.wq_call E.wq_get E.wq_getO E.wq_getOs E.wq_getPs E.wq_fresh E.wq_anyNil E.wq_getR0 E.wq_getR E.wq_ixM E.wq_n E.wq_g E.wq_gn E.ev_skip E.ev_region E.ev_draw E.ev_seq E.ev_cond E.ev_block E.ev_exit E.ev_ret E.sq_n E.sq_e E.sq_r E.bl_n E.bl_e E.bl_r E.lp_n E.lp_e E.lp_r E.fk_n E.fk_r E.q_move E.q_assign E.q_pick E.q_bin E.q_binw E.q_un E.q_alloc E.q_box E.q_build E.q_buildS E.q_makeS E.q_load E.q_store E.q_nilCheck E.q_slice E.q_fieldAddr E.q_field E.q_indexAddr E.q_extract E.q_makeFunc E.q_call E.q_callT E.q_len E.q_append E.q_min E.q_max E.q_convert E.q_cap E.q_clear appendIM appendZM E.b_add E.b_sub E.b_mul E.b_eql E.b_neq E.b_lss E.b_leq E.b_gtr E.b_geq E.GO_tmp E.GO_int E.GO_bool E.GO_str E.GO_nil E.GO_func E.GOs_nil E.GOs_cons E.GPs_nil E.GPs_cons E.RW_nil E.RW_cons E.dstAt_0 E.dstAt_s E.keepL_nil E.keepL_s E.keepL_k E.rmN_nil E.rmN_cons E.memN_nil E.memN_cons E.memK_nil E.memK_cons E.ovl_nil E.ovl_kk E.ovl_sk E.ovl_ks E.ovl_ss ofL_s ofL_sk ofL_ks ofL_k ofL_nil E.CO_tmp E.CO_bool
attribute [local go_sem] E.RM_nil E.RM_cons E.kd_k E.sbr_eq E.s3_nil E.s3_s E.s3_k E.vr_c E.vr_a E.vr_p E.vr_q E.vr_t E.vr_f E.vr_u E.cr_r E.cr_v E.cr_b E.cr_n E.cr_u E.crs_nil E.crs_cons E.renK_nil E.renK_cons keysVs V.keys C.keys keysCs E.RG_nil E.RG_cons E.GV_v E.GB_true E.GB_false E.GX_b E.GG_t E.GG_f E.GG_u E.GU_some E.IX_0 E.IX_s E.CX_s E.FR_none E.EN_e E.GVB_b E.b_boolM E.b_nilM E.b_strM E.b_aggM
attribute [local go_sem] List.cons_append List.nil_append List.append_nil List.length_cons List.length_nil List.length_map List.length_append callM E.argsH_nil E.argsH_cons E.argH_c E.argH_a E.argH_f E.cellsH_nil E.cellsH_cons E.cellH_v E.cellH_b E.cellH_n E.cellH_nt E.cellH_u E.cellH_rt E.cellH_rf capsA capA callable backs backT resVs resV resC tupV lenV intV boolV getE getO entryL entryKs A.ts entryV entryC entryCs entryCap List.map_cons List.map_nil E.cut_n E.cut_r E.cutM plainL A.capOK szEs szE szT SZ whole toB toC List.drop_zero List.take_zero List.take_succ_cons List.drop_succ_cons resultsM resultM outM outM1 convs conv finAs finA finT finTs Int.toNat_natCast A.plain T.plain List.isEmpty_nil List.isEmpty_cons Bool.or_true Bool.true_or Bool.and_self List.getElem?_cons_zero List.getElem?_cons_succ Option.bind_some Option.bind_none Option.bind Nat.zero_add Nat.add_zero OWN BOR ONE SCAL DE ETA E.take_rest Int.toNat_zero E.take_map E.drop_map E.take_len1 List.take_length E.app_map Int.natCast_zero Int.sub_zero Int.toNat_sub partCells V.cells convsL appendM srcM E.scalEs_nil E.scalEs_cons E.oneEs_nil E.oneEs_cons List.all_cons List.all_nil T.one Bool.and_true gone ownEs ownE ownT borEs borE borT setRow splice List.set_cons_zero List.set_cons_succ optI getOpt sliceM ptrTo app_ofL T.isV Value.oneCell' fillC zeroC spliceC allV eqVs eqV minV maxV setAt setCell holed List.dropLast List.getLast?_singleton Option.getD_some Option.isSome_some Option.isSome_none Bool.and_false Bool.true_and Bool.false_and Option.map_some Option.map_none false_or true_or or_true rowAt cellAt E.constV_nil E.constV_int E.constV_bool E.constV_str E.setCell_set E.setCell_len setRow setAt List.dropLast_cons_cons List.dropLast_singleton List.getLast?_cons_cons
attribute [local go_sem_proc ↓] reduceIte
attribute [local go_sem_proc] Nat.reduceEqDiff reduceCtorEq Nat.reduceAdd Nat.reduceMul
attribute [local irreducible] E.argsH E.argH E.cellsH E.cellH E.GV E.GB E.GX E.GG E.GU E.IX E.CX E.RW E.FR E.EN E.CALL E.GO E.GOs E.GPs E.GVB E.KD E.RM E.RG E.CO E.WQ E.EV E.SQ E.BL E.LP E.FK E.S3 E.RK E.NEXT E.NQ E.INDEP
attribute [local go_sem] mdG_eq mdM toNat_pred setI List.length_set mdL_eq E.b_rem E.b_quo E.q_index E.q_convert idxS lenS convS put wrap_byte eStr_eq own_eStr bor_eStr scal_eStr one_eStr sz_eStr sub1N
theorem firstD_s (a : List Int) (b : List Int) (ha : a.length ≤ 1048576) (hb : b.length ≤ 1048576) : Fn Go.Proofs.Tryz.prog 99 [.c (.s false 1 (a.map eInt)), .c (.s false 1 (b.map eInt))] [.c .d, .c .d] [.c (.v (vi (firstD a b)))] := by
  refine E.Fn.ev (n := 38) mdL false mix Go.Proofs.Tryz.func99 rfl (by simp [Go.Proofs.Tryz.f99]) Go.Proofs.Tryz.ntmps99 (by simp) (by kernel_rfl) (rs := [.tmp 4]) (tys := [3]) rfl rfl (by simp [finOK, A.ts, OWN, ownE, ownT]) (by simp [resOK, A.ts, OWN, ownE, ownT, DE]) ?_
  simp only [go_sem]
  repeat' (first
    | simp only [List.cons.injEq, A.c.injEq, A.a.injEq, T.v.injEq, T.s.injEq, Value.bool.injEq, Value.int.injEq, and_true, true_and]
    | (refine E.GB.use (fun h => ?_) (fun h => ?_) <;> (simp only [go_sem, h]) <;> (try simp only [decide_eq_true_eq, decide_eq_false_iff_not, Bool.not_eq_true', Bool.not_eq_false', Bool.not_eq_true, Bool.not_eq_false, beq_iff_eq, beq_eq_false_iff_ne, bne_iff_ne, bne_eq_false_iff_eq, Int.not_lt, Int.not_le, ne_eq] at h))
    | exact E.INDEP.mk2 (by kernel_rfl)
    | exact E.RK.mk (by kernel_rfl)
    | (refine E.IX_map ?_ (fun hx => ?_); rotate_left; simp only [go_sem])
    | (refine E.loopR (ι := Nat) 2 rfl (fun i => [(.s 5, .v (.c (.v (vi i))))]) [0, 1, 28, 29, 30, 31, 32, 33, 34, 35, 36, 37] [] [] (fun i => a.length - i) (fun i => i ≤ a.length ∧ i ≤ b.length ∧ i + comI (a.drop i) (b.drop i) = comI a b) mix (by kernel_rfl) 0 ?_ ?_ (fun i ⟨hi, hj, hR⟩ => ?_); all_goals (try simp (maxSteps := 900000) only [go_sem]); all_goals (try dsimp only at hi hj hR))
    | (refine E.NEXT.use [] (i + 1) ?_ ?_ ?_; rotate_left 2; focus (simp (maxSteps := 900000) only [go_sem]; (repeat' (first | with_reducible rfl | exact E.RK.mk (by kernel_rfl) | apply And.intro | (push_cast; with_reducible rfl) | (refine E.int_c ?_; omega) | (simp only [go_sem]; done) | (rw [List.map_append]; rfl) | (simp; done) | (simp only [*]; done) | fail)); done))
    | apply And.intro
    | omega
    | (exact comI_s (by first | omega | (split at * <;> omega)) (by first | omega | (split at * <;> omega)) (by with_reducible assumption) hR; done)
    | (rw [firstD_f (by first | omega | (split at * <;> omega)) (by first | omega | (split at * <;> omega)) (by with_reducible assumption) hR]; done)
    | (rw [firstD_e hi hj (by first | omega | (split at * <;> omega)) hR (by with_reducible assumption)]; done)
    | (rw [firstD_n hi hj (by first | omega | (split at * <;> omega)) hR (by with_reducible assumption)]; done)
    | fail)

theorem firstD_i (a : List Int) (b : List Int) (ha : a.length ≤ 1048576) (hb : b.length ≤ 1048576) : Fn Go.Proofs.Tryz.prog 103 [.c (.s false 1 (a.map eInt)), .c (.s false 1 (b.map eInt))] [.c .d, .c .d] [.c (.v (vi (firstD a b)))] := by
  refine E.Fn.ev (n := 33) mdL false mix Go.Proofs.Tryz.func103 rfl (by simp [Go.Proofs.Tryz.f103]) Go.Proofs.Tryz.ntmps103 (by simp) (by kernel_rfl) (rs := [.tmp 4]) (tys := [3]) rfl rfl (by simp [finOK, A.ts, OWN, ownE, ownT]) (by simp [resOK, A.ts, OWN, ownE, ownT, DE]) ?_
  simp only [go_sem]
  repeat' (first
    | simp only [List.cons.injEq, A.c.injEq, A.a.injEq, T.v.injEq, T.s.injEq, Value.bool.injEq, Value.int.injEq, and_true, true_and]
    | (refine E.GB.use (fun h => ?_) (fun h => ?_) <;> (simp only [go_sem, h]) <;> (try simp only [decide_eq_true_eq, decide_eq_false_iff_not, Bool.not_eq_true', Bool.not_eq_false', Bool.not_eq_true, Bool.not_eq_false, beq_iff_eq, beq_eq_false_iff_ne, bne_iff_ne, bne_eq_false_iff_eq, Int.not_lt, Int.not_le, ne_eq] at h))
    | exact E.INDEP.mk2 (by kernel_rfl)
    | exact E.RK.mk (by kernel_rfl)
    | (refine E.IX_map ?_ (fun hx => ?_); rotate_left; simp only [go_sem])
    | (refine E.loopR (ι := Nat) 3 rfl (fun i => [(.s 13, .v (.c (.v (vi i))))]) [0, 1, 5, 12, 27, 28, 29, 30, 31, 32] [] [] (fun i => a.length - i) (fun i => i ≤ a.length ∧ i ≤ b.length ∧ i + comI (a.drop i) (b.drop i) = comI a b) mix (by kernel_rfl) 0 ?_ ?_ (fun i ⟨hi, hj, hR⟩ => ?_); all_goals (try simp (maxSteps := 900000) only [go_sem]); all_goals (try dsimp only at hi hj hR))
    | (refine E.NEXT.use [] (i + 1) ?_ ?_ ?_; rotate_left 2; focus (simp (maxSteps := 900000) only [go_sem]; (repeat' (first | with_reducible rfl | exact E.RK.mk (by kernel_rfl) | apply And.intro | (push_cast; with_reducible rfl) | (refine E.int_c ?_; omega) | (simp only [go_sem]; done) | (rw [List.map_append]; rfl) | (simp; done) | (simp only [*]; done) | fail)); done))
    | apply And.intro
    | omega
    | (exact comI_s (by first | omega | (split at * <;> omega)) (by first | omega | (split at * <;> omega)) (by with_reducible assumption) hR; done)
    | (rw [firstD_f (by first | omega | (split at * <;> omega)) (by first | omega | (split at * <;> omega)) (by with_reducible assumption) hR]; done)
    | (rw [firstD_e hi hj (by first | omega | (split at * <;> omega)) hR (by with_reducible assumption)]; done)
    | (rw [firstD_n hi hj (by first | omega | (split at * <;> omega)) hR (by with_reducible assumption)]; done)
    | fail)

theorem scrub_s (c : Clu) (id : Int) (hB : CluB c) : Fn Go.Proofs.Tryz.prog 59 [.a (eClu false c), .c (.v (vi id))] [.a [.d, .d, .d, .d, .d, .d, .d, .d, .d, .d], .c .d] [.c (.s true 2 ((scrub c id).map eDmg))] := by
  refine E.Fn.ev (n := 63) mdL false mix Go.Proofs.Tryz.func59 rfl (by simp [Go.Proofs.Tryz.f59]) Go.Proofs.Tryz.ntmps59 (by simp) (by kernel_rfl) (rs := [.tmp 4]) (tys := [89]) rfl rfl (by simp [finOK, A.ts, OWN, ownE, ownT]) (by simp [resOK, A.ts, OWN, ownE, ownT, DE]) ?_
  simp only [go_sem]
  repeat' (first
    | simp only [List.cons.injEq, A.c.injEq, A.a.injEq, T.v.injEq, T.s.injEq, Value.bool.injEq, Value.int.injEq, and_true, true_and]
    | (refine E.CALL.use (dataSrv_s _ _ ?_) ?_ <;> (try simp only [go_sem]))
    | (refine E.CALL.use (comPart_s _ ?_) ?_ <;> (try simp only [go_sem]))
    | (refine E.CALL.use (digL_s _ ?_) ?_ <;> (try simp only [go_sem]))
    | (refine E.CALL.use (eqConf_s_B _ _ ?_ ?_) ?_ <;> (try simp only [go_sem]))
    | (refine E.CALL.use (firstD_s _ _ ?_ ?_) ?_ <;> (try simp only [go_sem]))
    | (refine E.GB.use (fun h => ?_) (fun h => ?_) <;> (simp only [go_sem, h]) <;> (try simp only [decide_eq_true_eq, decide_eq_false_iff_not, Bool.not_eq_true', Bool.not_eq_false', Bool.not_eq_true, Bool.not_eq_false, beq_iff_eq, beq_eq_false_iff_ne, bne_iff_ne, bne_eq_false_iff_eq, Int.not_lt, Int.not_le, ne_eq] at h))
    | exact E.INDEP.mk2 (by kernel_rfl)
    | exact E.RK.mk (by kernel_rfl)
    | (refine E.IX_map ?_ (fun hx => ?_); rotate_left; simp only [go_sem])
    | (refine E.loopR (ι := Nat × List Dmg) 7 rfl (fun ⟨i, out⟩ => [(.s 8, .v (.c (.v (vi i)))), (.s 5, .v (.c (.r (10, 0) 0 [] 0 (out).length))), (.k (10, 0), .e ⟨0, 2, (out).map eDmg⟩)]) [2, 4, 6, 7, 62] [(10, 0)] [] (fun ⟨i, out⟩ => 5 - i) (fun ⟨i, out⟩ => i ≤ 5 ∧ out = scrubTo c id i) mix (by kernel_rfl) (0, []) ?_ ?_ (fun ⟨i, out⟩ ⟨hi, ho⟩ => ?_); all_goals (try simp (maxSteps := 900000) only [go_sem]); all_goals (try dsimp only at hi ho))
    | (refine E.NEXT.use [((10, 0), (61, 0))] (i + 1, out ++ [⟨(i : Int), firstD (digL (comPart (at' c.srvs id.toNat))) (digL (comPart (at' c.srvs i))) - 1⟩]) ?_ ?_ ?_; rotate_left 2; focus (simp (maxSteps := 900000) only [go_sem]; (repeat' (first | with_reducible rfl | exact E.RK.mk (by kernel_rfl) | apply And.intro | (push_cast; with_reducible rfl) | (refine E.int_c ?_; omega) | (simp only [go_sem]; done) | (rw [List.map_append]; rfl) | (simp; done) | (simp only [*]; done) | fail)); done))
    | (refine E.NEXT.use [] (i + 1, out) ?_ ?_ ?_; rotate_left 2; focus (simp (maxSteps := 900000) only [go_sem]; (repeat' (first | with_reducible rfl | exact E.RK.mk (by kernel_rfl) | apply And.intro | (push_cast; with_reducible rfl) | (refine E.int_c ?_; omega) | (simp only [go_sem]; done) | (rw [List.map_append]; rfl) | (simp; done) | (simp only [*]; done) | fail)); done))
    | apply And.intro
    | omega
    | refine congrArg (List.map _) ?_
    | ((have q := dataSrv_of (by with_reducible assumption : dataSrv c id = true); omega); done)
    | (exact hB.at _; done)
    | (exact (hB.at _).conf; done)
    | ((have q3 := comPart_len (at' c.srvs id.toNat); have q4 := (hB.at id.toNat).log; omega); done)
    | ((have q3 := comPart_len (at' c.srvs i); have q4 := (hB.at i).log; omega); done)
    | ((have q3 := digL_len (comPart (at' c.srvs id.toNat)); omega); done)
    | ((have q3 := digL_len (comPart (at' c.srvs i)); omega); done)
    | ((have q3 := scrubTo_len c id i; rw [← ho] at q3; omega); done)
    | ((have q3 := firstD_b (digL (comPart (at' c.srvs id.toNat))) (digL (comPart (at' c.srvs i))); have q4 := digL_len (comPart (at' c.srvs id.toNat)); (first | omega | (unfold in64; omega))); done)
    | (exact scrubTo_y ho (by with_reducible assumption) (by with_reducible assumption) (by with_reducible assumption); done)
    | (exact scrubTo_n ho (.inl (by with_reducible assumption)); done)
    | (exact scrubTo_n ho (.inr (.inl (by with_reducible assumption))); done)
    | (exact scrubTo_n ho (.inr (.inr (by with_reducible assumption))); done)
    | ((rw [scrub_n (by with_reducible assumption)]; rfl); done)
    | (rw [← scrub_y (by with_reducible assumption) ho (by omega) (by omega)]; done)
    | (rfl; done)
    | fail)

theorem scrub_i (c : Clu) (id : Int) (hB : CluB c) : Fn Go.Proofs.Tryz.prog 60 [.a (eClu false c), .c (.v (vi id))] [.a [.d, .d, .d, .d, .d, .d, .d, .d, .d, .d], .c .d] [.c (.s true 2 ((scrub c id).map eDmg))] := by
  refine E.Fn.ev (n := 63) mdL false mix Go.Proofs.Tryz.func60 rfl (by simp [Go.Proofs.Tryz.f60]) Go.Proofs.Tryz.ntmps60 (by simp) (by kernel_rfl) (rs := [.tmp 4]) (tys := [89]) rfl rfl (by simp [finOK, A.ts, OWN, ownE, ownT]) (by simp [resOK, A.ts, OWN, ownE, ownT, DE]) ?_
  simp only [go_sem]
  repeat' (first
    | simp only [List.cons.injEq, A.c.injEq, A.a.injEq, T.v.injEq, T.s.injEq, Value.bool.injEq, Value.int.injEq, and_true, true_and]
    | (refine E.CALL.use (dataSrv_i _ _ ?_) ?_ <;> (try simp only [go_sem]))
    | (refine E.CALL.use (comPart_i _ ?_) ?_ <;> (try simp only [go_sem]))
    | (refine E.CALL.use (digL_i _ ?_) ?_ <;> (try simp only [go_sem]))
    | (refine E.CALL.use (eqConf_i_B _ _ ?_ ?_) ?_ <;> (try simp only [go_sem]))
    | (refine E.CALL.use (firstD_i _ _ ?_ ?_) ?_ <;> (try simp only [go_sem]))
    | (refine E.GB.use (fun h => ?_) (fun h => ?_) <;> (simp only [go_sem, h]) <;> (try simp only [decide_eq_true_eq, decide_eq_false_iff_not, Bool.not_eq_true', Bool.not_eq_false', Bool.not_eq_true, Bool.not_eq_false, beq_iff_eq, beq_eq_false_iff_ne, bne_iff_ne, bne_eq_false_iff_eq, Int.not_lt, Int.not_le, ne_eq] at h))
    | exact E.INDEP.mk2 (by kernel_rfl)
    | exact E.RK.mk (by kernel_rfl)
    | (refine E.IX_map ?_ (fun hx => ?_); rotate_left; simp only [go_sem])
    | (refine E.loopR (ι := Nat × List Dmg) 6 rfl (fun ⟨i, out⟩ => [(.s 26, .v (.c (.v (vi i)))), (.s 5, .v (.c (.r (10, 0) 0 [] 0 (out).length))), (.k (10, 0), .e ⟨0, 2, (out).map eDmg⟩)]) [1, 2, 4, 6, 24, 25, 62] [(10, 0)] [] (fun ⟨i, out⟩ => 5 - i) (fun ⟨i, out⟩ => i ≤ 5 ∧ out = scrubTo c id i) mix (by kernel_rfl) (0, []) ?_ ?_ (fun ⟨i, out⟩ ⟨hi, ho⟩ => ?_); all_goals (try simp (maxSteps := 900000) only [go_sem]); all_goals (try dsimp only at hi ho))
    | (refine E.NEXT.use [((10, 0), (60, 0))] (i + 1, out ++ [⟨(i : Int), firstD (digL (comPart (at' c.srvs id.toNat))) (digL (comPart (at' c.srvs i))) - 1⟩]) ?_ ?_ ?_; rotate_left 2; focus (simp (maxSteps := 900000) only [go_sem]; (repeat' (first | with_reducible rfl | exact E.RK.mk (by kernel_rfl) | apply And.intro | (push_cast; with_reducible rfl) | (refine E.int_c ?_; omega) | (simp only [go_sem]; done) | (rw [List.map_append]; rfl) | (simp; done) | (simp only [*]; done) | fail)); done))
    | (refine E.NEXT.use [] (i + 1, out) ?_ ?_ ?_; rotate_left 2; focus (simp (maxSteps := 900000) only [go_sem]; (repeat' (first | with_reducible rfl | exact E.RK.mk (by kernel_rfl) | apply And.intro | (push_cast; with_reducible rfl) | (refine E.int_c ?_; omega) | (simp only [go_sem]; done) | (rw [List.map_append]; rfl) | (simp; done) | (simp only [*]; done) | fail)); done))
    | apply And.intro
    | omega
    | refine congrArg (List.map _) ?_
    | ((have q := dataSrv_of (by with_reducible assumption : dataSrv c id = true); omega); done)
    | (exact hB.at _; done)
    | (exact (hB.at _).conf; done)
    | ((have q3 := comPart_len (at' c.srvs id.toNat); have q4 := (hB.at id.toNat).log; omega); done)
    | ((have q3 := comPart_len (at' c.srvs i); have q4 := (hB.at i).log; omega); done)
    | ((have q3 := digL_len (comPart (at' c.srvs id.toNat)); omega); done)
    | ((have q3 := digL_len (comPart (at' c.srvs i)); omega); done)
    | ((have q3 := scrubTo_len c id i; rw [← ho] at q3; omega); done)
    | ((have q3 := firstD_b (digL (comPart (at' c.srvs id.toNat))) (digL (comPart (at' c.srvs i))); have q4 := digL_len (comPart (at' c.srvs id.toNat)); (first | omega | (unfold in64; omega))); done)
    | (exact scrubTo_y ho (by with_reducible assumption) (by with_reducible assumption) (by with_reducible assumption); done)
    | (exact scrubTo_n ho (.inl (by with_reducible assumption)); done)
    | (exact scrubTo_n ho (.inr (.inl (by with_reducible assumption))); done)
    | (exact scrubTo_n ho (.inr (.inr (by with_reducible assumption))); done)
    | ((rw [scrub_n (by with_reducible assumption)]; rfl); done)
    | ((have q := dataSrv_of (by with_reducible assumption : dataSrv c id = true); rw [← scrub_y (by with_reducible assumption) ho (by omega) (by omega)]); done)
    | (rfl; done)
    | fail)

theorem clean_s (c : Clu) (hB : CluB c) : Fn Go.Proofs.Tryz.prog 18 [.a (eClu false c)] [.a [.d, .d, .d, .d, .d, .d, .d, .d, .d, .d]] [.c (.v (.bool (clean c)))] := by
  refine E.Fn.ev (n := 22) mdL false mix Go.Proofs.Tryz.func18 rfl (by simp [Go.Proofs.Tryz.f18]) Go.Proofs.Tryz.ntmps18 (by simp) (by kernel_rfl) (rs := [.tmp 2]) (tys := [4]) rfl rfl (by simp [finOK, A.ts, OWN, ownE, ownT]) (by simp [resOK, A.ts, OWN, ownE, ownT, DE]) ?_
  simp only [go_sem]
  repeat' (first
    | simp only [List.cons.injEq, A.c.injEq, A.a.injEq, T.v.injEq, T.s.injEq, Value.bool.injEq, Value.int.injEq, and_true, true_and]
    | (refine E.CALL.use (validClu_s_B _ ?_) ?_ <;> (try simp only [go_sem]))
    | (refine E.CALL.use (scrub_s _ _ ?_) ?_ <;> (try simp only [go_sem]))
    | (refine E.GB.use (fun h => ?_) (fun h => ?_) <;> (simp only [go_sem, h]) <;> (try simp only [decide_eq_true_eq, decide_eq_false_iff_not, Bool.not_eq_true', Bool.not_eq_false', Bool.not_eq_true, Bool.not_eq_false, beq_iff_eq, beq_eq_false_iff_ne, bne_iff_ne, bne_eq_false_iff_eq, Int.not_lt, Int.not_le, ne_eq] at h))
    | exact E.RK.mk (by kernel_rfl)
    | (refine E.loopR (ι := Nat) 2 rfl (fun i => [(.s 3, .v (.c (.v (vi i))))]) [1, 20, 21] [] [] (fun i => c.srvs.length - i) (fun i => i ≤ c.srvs.length ∧ (∀ k : Nat, k < i → scrub c k = [])) mix (by kernel_rfl) 0 ?_ ?_ (fun i ⟨hi, hN⟩ => ?_); all_goals (try simp (maxSteps := 900000) only [go_sem]); all_goals (try dsimp only at hi hN))
    | (refine E.NEXT.use [] (i + 1) ?_ ?_ ?_; rotate_left 2; focus (simp (maxSteps := 900000) only [go_sem]; (repeat' (first | with_reducible rfl | exact E.RK.mk (by kernel_rfl) | apply And.intro | (push_cast; with_reducible rfl) | (refine E.int_c ?_; omega) | (simp only [go_sem]; done) | (rw [List.map_append]; rfl) | (simp; done) | (simp only [*]; done) | fail)); done))
    | apply And.intro
    | omega
    | (rw [clean_f (i := i) (by omega)]; done)
    | (exact clean_next hN (by omega); done)
    | (rw [clean_e hN (by omega)]; done)
    | ((rw [clean_n (by with_reducible assumption)]; assumption); done)
    | (have q := hB.sl; omega; done)
    | fail)

theorem clean_i (c : Clu) (hB : CluB c) : Fn Go.Proofs.Tryz.prog 19 [.a (eClu false c)] [.a [.d, .d, .d, .d, .d, .d, .d, .d, .d, .d]] [.c (.v (.bool (clean c)))] := by
  refine E.Fn.ev (n := 18) mdL false mix Go.Proofs.Tryz.func19 rfl (by simp [Go.Proofs.Tryz.f19]) Go.Proofs.Tryz.ntmps19 (by simp) (by kernel_rfl) (rs := [.tmp 2]) (tys := [4]) rfl rfl (by simp [finOK, A.ts, OWN, ownE, ownT]) (by simp [resOK, A.ts, OWN, ownE, ownT, DE]) ?_
  simp only [go_sem]
  repeat' (first
    | simp only [List.cons.injEq, A.c.injEq, A.a.injEq, T.v.injEq, T.s.injEq, Value.bool.injEq, Value.int.injEq, and_true, true_and]
    | (refine E.CALL.use (scrub_i _ _ ?_) ?_ <;> (try simp only [go_sem]))
    | (refine E.CALL.use (validClu_i _ ?_) ?_ <;> (try simp only [go_sem]))
    | (refine E.GB.use (fun h => ?_) (fun h => ?_) <;> (simp only [go_sem, h]) <;> (try simp only [decide_eq_true_eq, decide_eq_false_iff_not, Bool.not_eq_true', Bool.not_eq_false', Bool.not_eq_true, Bool.not_eq_false, beq_iff_eq, beq_eq_false_iff_ne, bne_iff_ne, bne_eq_false_iff_eq, Int.not_lt, Int.not_le, ne_eq] at h))
    | exact E.RK.mk (by kernel_rfl)
    | (refine E.loopR (ι := Nat) 2 rfl (fun i => [(.s 7, .v (.c (.v (vi i))))]) [1, 6, 16, 17] [] [] (fun i => c.srvs.length - i) (fun i => i ≤ c.srvs.length ∧ (∀ k : Nat, k < i → scrub c k = [])) mix (by kernel_rfl) 0 ?_ ?_ (fun i ⟨hi, hN⟩ => ?_); all_goals (try simp (maxSteps := 900000) only [go_sem]); all_goals (try dsimp only at hi hN))
    | (refine E.NEXT.use [] (i + 1) ?_ ?_ ?_; rotate_left 2; focus (simp (maxSteps := 900000) only [go_sem]; (repeat' (first | with_reducible rfl | exact E.RK.mk (by kernel_rfl) | apply And.intro | (push_cast; with_reducible rfl) | (refine E.int_c ?_; omega) | (simp only [go_sem]; done) | (rw [List.map_append]; rfl) | (simp; done) | (simp only [*]; done) | fail)); done))
    | apply And.intro
    | omega
    | (rw [clean_f (i := i) (by omega)]; done)
    | (exact clean_next hN (by omega); done)
    | (rw [clean_e hN (by omega)]; done)
    | (have q := hB.sl; omega; done)
    | fail)

end Go.Abs

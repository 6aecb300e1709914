/- Contracts of functions of the program, over the abstract machine, and facts for them. No condition. -/
import Derived.Test.YtchoomlibgefbaaDoorFacts
import Derived.Test.YtchoomlibgefbaaDoorPure20
import Derived.Test.YtchoomlibgefbaaDoorQ3
import Derived.Test.YtchoomlibgefbaaDoorQ30
import Derived.Test.YtchoomlibgefbaaDoorQ8
import Derived.Test.YtchoomlibgefbaaDoorQ80
import Derived.Test.YtchoomlibgefbaaDoorQ81
set_option linter.unusedVariables false
set_option linter.unusedSimpArgs false
set_option linter.unnecessarySimpa false
set_option linter.constructorNameAsVariable false
set_option maxHeartbeats 4000000
set_option maxRecDepth 100000
namespace Go.Abs
open Go
attribute [local go_sem ↓] E.argsA_h E.wq_ret E.wq_req E.wq_bad E.wq_call E.wq_get E.wq_getO E.wq_getOs E.wq_getPs E.wq_fresh E.wq_anyNil E.wq_getR0 E.wq_getR E.wq_ixM E.wq_n E.wq_g E.wq_gn E.ev_skip E.ev_region E.ev_draw E.ev_seq E.ev_cond E.ev_block E.ev_exit E.ev_ret E.sq_n E.sq_e E.sq_r E.bl_n E.bl_e E.bl_r E.lp_n E.lp_e E.lp_r E.fk_n E.fk_r E.q_move E.q_assign E.q_pick E.q_bin E.q_binw E.q_un E.q_alloc E.q_box E.q_build E.q_buildS E.q_makeS E.q_load E.q_store E.q_nilCheck E.q_slice E.q_fieldAddr E.q_field E.q_indexAddr E.q_extract E.q_makeFunc E.q_call E.q_callT E.q_len E.q_append E.q_min E.q_max E.q_convert E.q_cap E.q_clear appendIM appendZM E.b_add E.b_sub E.b_mul E.b_eql E.b_neq E.b_lss E.b_leq E.b_gtr E.b_geq E.GO_tmp E.GO_int E.GO_bool E.GO_str E.GO_nil E.GO_func E.GOs_nil E.GOs_cons E.GPs_nil E.GPs_cons E.RW_nil E.RW_cons E.dstAt_0 E.dstAt_s E.keepL_nil E.keepL_s E.keepL_k E.rmN_nil E.rmN_cons E.memN_nil E.memN_cons E.memK_nil E.memK_cons E.ovl_nil E.ovl_kk E.ovl_sk E.ovl_ks E.ovl_ss ofL_s ofL_sk ofL_ks ofL_k ofL_nil E.CO_tmp E.CO_bool
attribute [local go_sem] E.RM_nil E.RM_cons E.kd_k E.sbr_eq E.s3_nil E.s3_s E.s3_k E.vr_c E.vr_a E.vr_p E.vr_q E.vr_t E.vr_f E.vr_u E.cr_r E.cr_v E.cr_b E.cr_n E.cr_u E.crs_nil E.crs_cons E.renK_nil E.renK_cons keysVs V.keys C.keys keysCs E.RG_nil E.RG_cons E.GV_v E.GB_true E.GB_false E.GX_b E.GG_t E.GG_f E.GG_u E.GU_some E.IX_0 E.IX_s E.CX_s E.FR_none E.EN_e E.GVB_b E.b_boolM E.b_nilM E.b_strM E.b_aggM
attribute [local go_sem] List.cons_append List.nil_append List.append_nil List.length_cons List.length_nil List.length_map List.length_append callM E.argsH_nil E.argsH_cons E.argH_c E.argH_a E.argH_f E.cellsH_nil E.cellsH_cons E.cellH_v E.cellH_b E.cellH_n E.cellH_nt E.cellH_u E.cellH_rt E.cellH_rf capsA capA callable backs backT resVs resV resC tupV lenV intV boolV getE getO entryL entryKs A.ts entryV entryC entryCs entryCap List.map_cons List.map_nil E.cut_n E.cut_r E.cutM plainL A.capOK szEs szE szT SZ whole toB toC List.drop_zero List.take_zero List.take_succ_cons List.drop_succ_cons resultsM resultM outM outM1 convs conv finAs finA finT finTs Int.toNat_natCast A.plain T.plain List.isEmpty_nil List.isEmpty_cons Bool.or_true Bool.true_or Bool.and_self List.getElem?_cons_zero List.getElem?_cons_succ Option.bind_some Option.bind_none Option.bind Nat.zero_add Nat.add_zero OWN BOR ONE SCAL DE ETA E.take_rest Int.toNat_zero E.take_map E.drop_map E.take_len1 List.take_length E.app_map Int.natCast_zero Int.sub_zero Int.toNat_sub partCells V.cells convsL appendM srcM E.scalEs_nil E.scalEs_cons E.oneEs_nil E.oneEs_cons List.all_cons List.all_nil T.one Bool.and_true gone ownEs ownE ownT borEs borE borT setRow splice List.set_cons_zero List.set_cons_succ optI getOpt sliceM ptrTo app_ofL T.isV Value.oneCell' fillC zeroC spliceC allV eqVs eqV minV maxV setAt setCell holed List.dropLast List.getLast?_singleton Option.getD_some Option.isSome_some Option.isSome_none Bool.and_false Bool.true_and Bool.false_and Option.map_some Option.map_none false_or true_or or_true rowAt cellAt E.constV_nil E.constV_int E.constV_bool E.constV_str E.setCell_set E.setCell_len setRow setAt List.dropLast_cons_cons List.dropLast_singleton List.getLast?_cons_cons
attribute [local go_sem_proc ↓] reduceIte
attribute [local go_sem_proc] Nat.reduceEqDiff reduceCtorEq Nat.reduceAdd Nat.reduceMul
attribute [local irreducible] E.argsH E.argH E.cellsH E.cellH E.GV E.GB E.GX E.GG E.GU E.IX E.CX E.RW E.FR E.EN E.CALL E.GO E.GOs E.GPs E.GVB E.KD E.RM E.RG E.CO E.WQ E.EV E.SQ E.BL E.LP E.FK E.S3 E.RK E.NEXT E.NQ E.INDEP
attribute [local go_sem] mdG_eq mdM toNat_pred setI List.length_set mdL_eq E.b_rem E.b_quo E.q_index E.q_convert idxS lenS convS put wrap_byte eStr_eq own_eStr bor_eStr scal_eStr one_eStr sz_eStr sub1N
theorem join1_c (l : List ByteArray) (sep : ByteArray) (hl : l.length = 1) : Fn Go.Proofs.Tryd.prog 51 [.c (.s false 1 (l.map eStr)), .c (.v (.string sep))] [.c .d, .c .d] [.c (.v (.string (at' l 0)))] := by
  refine E.Fn.ev (n := 75) mdL false mix Go.Proofs.Tryd.func51 rfl (by simp [Go.Proofs.Tryd.f51]) Go.Proofs.Tryd.ntmps51 (by simp) (by kernel_rfl) (rs := [.tmp 4]) (tys := [9]) rfl rfl (by simp [finOK, A.ts, OWN, ownE, ownT]) (by simp [resOK, A.ts, OWN, ownE, ownT, DE]) ?_
  simp only [go_sem]
  repeat' (first
    | simp only [List.cons.injEq, A.c.injEq, A.a.injEq, T.v.injEq, T.s.injEq, Value.bool.injEq, Value.int.injEq, and_true, true_and]
    | (refine E.GB.use (fun h => ?_) (fun h => ?_) <;> (simp only [go_sem, h]) <;> (try simp only [decide_eq_true_eq, decide_eq_false_iff_not, Bool.not_eq_true', Bool.not_eq_false', Bool.not_eq_true, Bool.not_eq_false, beq_iff_eq, beq_eq_false_iff_ne, bne_iff_ne, bne_eq_false_iff_eq, Int.not_lt, Int.not_le, ne_eq] at h))
    | (refine E.IX_map ?_ (fun hx => ?_); rotate_left; simp only [go_sem])
    | apply And.intro
    | omega
    | fail)

theorem fmtLog_s (l : List LEnt) (hl : l.length = 1) (hv : isLog l = true) : Fn Go.Proofs.Tryd.prog 40 [.c (.s false 7 (l.map eLEnt))] [.c .d] [.c (.v (.string (fmtE (at' l 0))))] := by
  refine E.Fn.ev (n := 38) mdL false mix Go.Proofs.Tryd.func40 rfl (by simp [Go.Proofs.Tryd.f40]) Go.Proofs.Tryd.ntmps40 (by simp) (by kernel_rfl) (rs := [.tmp 2]) (tys := [9]) rfl rfl (by simp [finOK, A.ts, OWN, ownE, ownT]) (by simp [resOK, A.ts, OWN, ownE, ownT, DE]) ?_
  simp only [go_sem]
  repeat' (first
    | simp only [List.cons.injEq, A.c.injEq, A.a.injEq, T.v.injEq, T.s.injEq, Value.bool.injEq, Value.int.injEq, and_true, true_and]
    | (refine E.CALL.use (isLog_s _ ?_) ?_ <;> (try simp only [go_sem]))
    | (refine E.CALL.use (fmtI_s _ ?_ ?_) ?_ <;> (try simp only [go_sem]))
    | (refine E.CALL.use (fmtOp_s _ ?_) ?_ <;> (try simp only [go_sem]))
    | (refine E.GB.use (fun h => ?_) (fun h => ?_) <;> (simp only [go_sem, h]) <;> (try simp only [decide_eq_true_eq, decide_eq_false_iff_not, Bool.not_eq_true', Bool.not_eq_false', Bool.not_eq_true, Bool.not_eq_false, beq_iff_eq, beq_eq_false_iff_ne, bne_iff_ne, bne_eq_false_iff_eq, Int.not_lt, Int.not_le, ne_eq] at h))
    | exact E.INDEP.mk2 (by kernel_rfl)
    | exact E.RK.mk (by kernel_rfl)
    | (refine E.IX_map ?_ (fun hx => ?_); rotate_left; simp only [go_sem])
    | (refine E.loopR (ι := Nat × ByteArray) 7 rfl (fun ⟨i, s⟩ => [(.s 4, .v (.c (.v (vi i)))), (.s 3, .v (.c (.v (.string s))))]) [0, 2, 37] [] [] (fun ⟨i, s⟩ => l.length - i) (fun ⟨i, s⟩ => i ≤ l.length ∧ s = flS l i) mix (by kernel_rfl) (0, ⟨#[]⟩) ?_ ?_ (fun ⟨i, s⟩ ⟨hi, ho⟩ => ?_); all_goals (try simp (maxSteps := 900000) only [go_sem]); all_goals (try dsimp only at hi ho))
    | (refine E.NEXT.use [] (i + 1, s ++ itoaB (at' l i).epoch ++ ⟨#[58]⟩ ++ fmtOp (at' l i).op) ?_ ?_ ?_; rotate_left 2; focus (simp (maxSteps := 900000) only [go_sem]; (repeat' (first | with_reducible rfl | exact E.RK.mk (by kernel_rfl) | apply And.intro | (push_cast; with_reducible rfl) | (refine E.int_c ?_; omega) | (simp only [go_sem]; done) | (rw [List.map_append]; rfl) | (simp; done) | (simp only [*]; done) | fail)); done))
    | apply And.intro
    | omega
    | ((have q := isLog_at hv (i := i) (by omega); omega); done)
    | (exact (isLog_at hv (i := i) (by omega)).2.2; done)
    | (exact absurd (hv.symm.trans (by with_reducible assumption : isLog l = false)) (by decide); done)
    | (rw [flS_fin ho (by omega)]; done)
    | (exact flS_next hl (by omega) ho; done)
    | ((have e1 : Array.size (#[46] : Array UInt8) = 1 := rfl; have e2 : Array.size (#[32] : Array UInt8) = 1 := rfl; have e3 : Array.size (#[32, 115, 119, 97, 112, 32] : Array UInt8) = 6 := rfl; have e4 : Array.size (#[32, 119, 114, 105, 116, 101, 32] : Array UInt8) = 7 := rfl; have e5 : Array.size (#[115, 119, 97, 112, 32] : Array UInt8) = 5 := rfl; have e6 : Array.size (#[119, 114, 105, 116, 101, 32] : Array UInt8) = 6 := rfl; have e7 : Array.size (#[58] : Array UInt8) = 1 := rfl; have e8 : Array.size (#[] : Array UInt8) = 0 := rfl; have h1 := itoaB_size (at' l i).epoch; have h2 := fmtOp_size (at' l i).op; have h3 := flS_size ho; (try simp only [ByteArray.size_append]); (try simp only [e7, e8]); omega); done)
    | (rfl; done)
    | fail)

theorem fmtLog_i (l : List LEnt) (hl : l.length = 1) (hv : isLog l = true) : Fn Go.Proofs.Tryd.prog 44 [.c (.s false 7 (l.map eLEnt))] [.c .d] [.c (.v (.string (fmtE (at' l 0))))] := by
  refine E.Fn.ev (n := 35) mdL false mix Go.Proofs.Tryd.func44 rfl (by simp [Go.Proofs.Tryd.f44]) Go.Proofs.Tryd.ntmps44 (by simp) (by kernel_rfl) (rs := [.tmp 2]) (tys := [9]) rfl rfl (by simp [finOK, A.ts, OWN, ownE, ownT]) (by simp [resOK, A.ts, OWN, ownE, ownT, DE]) ?_
  simp only [go_sem]
  repeat' (first
    | simp only [List.cons.injEq, A.c.injEq, A.a.injEq, T.v.injEq, T.s.injEq, Value.bool.injEq, Value.int.injEq, and_true, true_and]
    | (refine E.CALL.use (isLog_i _ ?_) ?_ <;> (try simp only [go_sem]))
    | (refine E.CALL.use (fmtI_i _ ?_ ?_) ?_ <;> (try simp only [go_sem]))
    | (refine E.CALL.use (fmtOp_i _ ?_) ?_ <;> (try simp only [go_sem]))
    | (refine E.CALL.use (join1_c _ _ ?_) ?_ <;> (try simp only [go_sem]))
    | (refine E.GB.use (fun h => ?_) (fun h => ?_) <;> (simp only [go_sem, h]) <;> (try simp only [decide_eq_true_eq, decide_eq_false_iff_not, Bool.not_eq_true', Bool.not_eq_false', Bool.not_eq_true, Bool.not_eq_false, beq_iff_eq, beq_eq_false_iff_ne, bne_iff_ne, bne_eq_false_iff_eq, Int.not_lt, Int.not_le, ne_eq] at h))
    | exact E.INDEP.mk2 (by kernel_rfl)
    | exact E.RK.mk (by kernel_rfl)
    | (refine E.IX_map ?_ (fun hx => ?_); rotate_left; simp only [go_sem])
    | (refine E.loopR (ι := Nat × List ByteArray) 7 rfl (fun ⟨i, out⟩ => [(.s 17, .v (.c (.v (vi i)))), (.s 3, .v (.c (.r (14, 0) 0 [] 0 (out).length))), (.k (14, 0), .e ⟨0, 1, (out).map eStr⟩)]) [2, 15, 16, 33, 34] [(14, 0)] [] (fun ⟨i, out⟩ => l.length - i) (fun ⟨i, out⟩ => i ≤ l.length ∧ out = (l.take i).map fmtE) mix (by kernel_rfl) (0, []) ?_ ?_ (fun ⟨i, out⟩ ⟨hi, ho⟩ => ?_); all_goals (try simp (maxSteps := 900000) only [go_sem]); all_goals (try dsimp only at hi ho))
    | (refine E.NEXT.use [((14, 0), (31, 0))] (i + 1, out ++ [fmtE (at' l i)]) ?_ ?_ ?_; rotate_left 2; focus (simp (maxSteps := 900000) only [go_sem]; (repeat' (first | with_reducible rfl | exact E.RK.mk (by kernel_rfl) | apply And.intro | (push_cast; with_reducible rfl) | (refine E.int_c ?_; omega) | (simp only [go_sem]; done) | (rw [List.map_append]; rfl) | (simp; done) | (simp only [*]; done) | fail)); done))
    | apply And.intro
    | omega
    | ((have q := isLog_at hv (i := i) (by omega); omega); done)
    | (exact (isLog_at hv (i := i) (by omega)).2.2; done)
    | (exact absurd (hv.symm.trans (by with_reducible assumption : isLog l = false)) (by decide); done)
    | (exact fl_step ho (by omega); done)
    | (exact fl_len hl ho (by omega); done)
    | ((have q := congrArg List.length ho; simp only [List.length_map, List.length_take] at q; omega); done)
    | (rw [fl_at hl ho (by omega)]; done)
    | ((have e1 : Array.size (#[46] : Array UInt8) = 1 := rfl; have e2 : Array.size (#[32] : Array UInt8) = 1 := rfl; have e3 : Array.size (#[32, 115, 119, 97, 112, 32] : Array UInt8) = 6 := rfl; have e4 : Array.size (#[32, 119, 114, 105, 116, 101, 32] : Array UInt8) = 7 := rfl; have e5 : Array.size (#[115, 119, 97, 112, 32] : Array UInt8) = 5 := rfl; have e6 : Array.size (#[119, 114, 105, 116, 101, 32] : Array UInt8) = 6 := rfl; have e7 : Array.size (#[58] : Array UInt8) = 1 := rfl; have e8 : Array.size (#[] : Array UInt8) = 0 := rfl; have h1 := itoaB_size (at' l i).epoch; have h2 := fmtOp_size (at' l i).op; (try simp only [ByteArray.size_append]); (try simp only [e7, e8]); omega); done)
    | fail)

theorem digL_s (l : List LEnt) (hl : l.length ≤ 1048576) : Fn Go.Proofs.Tryd.prog 31 [.c (.s false 7 (l.map eLEnt))] [.c .d] [.c (.s true 1 ((digL l).map eInt))] := by
  refine E.Fn.ev (n := 37) mdL false mix Go.Proofs.Tryd.func31 rfl (by simp [Go.Proofs.Tryd.f31]) Go.Proofs.Tryd.ntmps31 (by simp) (by kernel_rfl) (rs := [.tmp 2]) (tys := [22]) rfl rfl (by simp [finOK, A.ts, OWN, ownE, ownT]) (by simp [resOK, A.ts, OWN, ownE, ownT, DE]) ?_
  simp only [go_sem]
  repeat' (first
    | simp only [List.cons.injEq, A.c.injEq, A.a.injEq, T.v.injEq, T.s.injEq, Value.bool.injEq, Value.int.injEq, and_true, true_and]
    | (refine E.CALL.use (fmtLog_s ((l.drop i).take 1) ?_ ?_) ?_ <;> (try simp only [go_sem]))
    | (refine E.CALL.use (isLog_s _ ?_) ?_ <;> (try simp only [go_sem]))
    | (refine E.CALL.use (chk_s _ ?_) ?_ <;> (try simp only [go_sem]))
    | (refine E.GB.use (fun h => ?_) (fun h => ?_) <;> (simp only [go_sem, h]) <;> (try simp only [decide_eq_true_eq, decide_eq_false_iff_not, Bool.not_eq_true', Bool.not_eq_false', Bool.not_eq_true, Bool.not_eq_false, beq_iff_eq, beq_eq_false_iff_ne, bne_iff_ne, bne_eq_false_iff_eq, Int.not_lt, Int.not_le, ne_eq] at h))
    | exact E.RK.mk (by kernel_rfl)
    | (refine E.loopR (ι := Nat × Int × List Int) 7 rfl (fun ⟨i, d, out⟩ => [(.s 5, .v (.c (.v (vi i)))), (.s 4, .v (.c (.v (vi d)))), (.s 3, .v (.c (.r (14, 0) 0 [] 0 (out).length))), (.k (14, 0), .e ⟨0, 1, (out).map eInt⟩)]) [0, 2, 36] [(14, 0)] [] (fun ⟨i, d, out⟩ => l.length - i) (fun ⟨i, d, out⟩ => i ≤ l.length ∧ out.length = i + 1 ∧ d = digTo l i ∧ out = digUp l i) mix (by kernel_rfl) (0, 11, [11]) ?_ ?_ (fun ⟨i, d, out⟩ ⟨hi, hn, hd, ho⟩ => ?_); all_goals (try simp (maxSteps := 900000) only [go_sem]); all_goals (try dsimp only at hi hn hd ho))
    | (refine E.NEXT.use [((14, 0), (35, 0))] (i + 1, (31 * d + chk (fmtE (at' l i))).tmod 9973, out ++ [(31 * d + chk (fmtE (at' l i))).tmod 9973]) ?_ ?_ ?_; rotate_left 2; focus (simp (maxSteps := 900000) only [go_sem]; (repeat' (first | with_reducible rfl | exact E.RK.mk (by kernel_rfl) | apply And.intro | (push_cast; with_reducible rfl) | (refine E.int_c ?_; omega) | (simp only [go_sem]; done) | (rw [List.map_append]; rfl) | (simp; done) | (simp only [*]; done) | ((rw [one_at (by omega), List.map_append]; rfl); done) | ((refine E.int_c ?_; rw [one_at (by omega)]); done) | ((refine E.int_c ?_; rw [one_at (by omega), Int.mul_comm]); done) | ((rw [one_at (by omega), Int.mul_comm, List.map_append]; rfl); done) | fail)); done))
    | apply And.intro
    | omega
    | (simp only [List.length_take, List.length_drop, List.length_append, List.length_set, List.length_cons, List.length_nil]; omega)
    | refine congrArg (List.map _) ?_
    | (exact one_log (by with_reducible assumption) (by omega); done)
    | (exact dig_stepD ho hd; done)
    | (have q := fmtE_size (at' ((l.drop i).take 1) 0); omega; done)
    | ((have q := digTo_b l i; have q2 := chk_b (fmtE (at' ((l.drop i).take 1) 0)); rw [← hd] at q; (first | omega | (unfold in64; omega))); done)
    | ((rw [digL_n (by with_reducible assumption)]; rfl); done)
    | ((have e : i = l.length := (by omega); subst e; rw [digL_y (by with_reducible assumption), ho]); done)
    | ((subst hd; rfl); done)
    | (rfl; done)
    | fail)

theorem digOf_s (l : List LEnt) (n : Int) (hl : l.length ≤ 1048576) : Fn Go.Proofs.Tryd.prog 15 [.c (.s false 7 (l.map eLEnt)), .c (.v (vi n))] [.c .d, .c .d] [.c (.v (vi (digOf l n)))] := by
  refine E.Fn.ev (n := 18) mdL false mix Go.Proofs.Tryd.func15 rfl (by simp [Go.Proofs.Tryd.f15]) Go.Proofs.Tryd.ntmps15 (by simp) (by kernel_rfl) (rs := [.tmp 4]) (tys := [3]) rfl rfl (by simp [finOK, A.ts, OWN, ownE, ownT]) (by simp [resOK, A.ts, OWN, ownE, ownT, DE]) ?_
  simp only [go_sem]
  repeat' (first
    | simp only [List.cons.injEq, A.c.injEq, A.a.injEq, T.v.injEq, T.s.injEq, Value.bool.injEq, Value.int.injEq, and_true, true_and]
    | (refine E.CALL.use (digL_s _ ?_) ?_ <;> (try simp only [go_sem]))
    | (refine E.CALL.use (in_s _ _ _) ?_ <;> (try simp only [go_sem]))
    | (refine E.GB.use (fun h => ?_) (fun h => ?_) <;> (simp only [go_sem, h]) <;> (try simp only [decide_eq_true_eq, decide_eq_false_iff_not, Bool.not_eq_true', Bool.not_eq_false', Bool.not_eq_true, Bool.not_eq_false, beq_iff_eq, beq_eq_false_iff_ne, bne_iff_ne, bne_eq_false_iff_eq, Int.not_lt, Int.not_le, ne_eq] at h))
    | (refine E.IX_map ?_ (fun hx => ?_); rotate_left; simp only [go_sem])
    | apply And.intro
    | omega
    | (have q := digL_len l; omega; done)
    | (have q := inR_of (by with_reducible assumption); omega; done)
    | (rw [digOf_y (by with_reducible assumption)]; done)
    | (rw [digOf_n (by with_reducible assumption)]; done)
    | fail)

theorem learnedD_s (s : Srv) (hB : SrvB s) : Fn Go.Proofs.Tryd.prog 6 [.a (eSrv false s)] [.a [.d, .d, .d, .d, .d, .d, .d, .d, .d, .d, .d, .d]] [.c (.v (vi (learnedD s)))] := by
  refine E.Fn.ev (n := 9) mdL false mix Go.Proofs.Tryd.func6 rfl (by simp [Go.Proofs.Tryd.f6]) Go.Proofs.Tryd.ntmps6 (by simp) (by kernel_rfl) (rs := [.tmp 2]) (tys := [3]) rfl rfl (by simp [finOK, A.ts, OWN, ownE, ownT]) (by simp [resOK, A.ts, OWN, ownE, ownT, DE]) ?_
  simp only [go_sem]
  repeat' (first
    | simp only [List.cons.injEq, A.c.injEq, A.a.injEq, T.v.injEq, T.s.injEq, Value.bool.injEq, Value.int.injEq, and_true, true_and]
    | (refine E.CALL.use (digOf_s _ _ ?_) ?_ <;> (try simp only [go_sem]))
    | apply And.intro
    | omega
    | (exact hB.learned; done)
    | (rfl; done)
    | fail)

theorem digL_i (l : List LEnt) (hl : l.length ≤ 1048576) : Fn Go.Proofs.Tryd.prog 34 [.c (.s false 7 (l.map eLEnt))] [.c .d] [.c (.s true 1 ((digL l).map eInt))] := by
  refine E.Fn.ev (n := 34) mdL false mix Go.Proofs.Tryd.func34 rfl (by simp [Go.Proofs.Tryd.f34]) Go.Proofs.Tryd.ntmps34 (by simp) (by kernel_rfl) (rs := [.tmp 2]) (tys := [22]) rfl rfl (by simp [finOK, A.ts, OWN, ownE, ownT]) (by simp [resOK, A.ts, OWN, ownE, ownT, DE]) ?_
  simp only [go_sem]
  repeat' (first
    | simp only [List.cons.injEq, A.c.injEq, A.a.injEq, T.v.injEq, T.s.injEq, Value.bool.injEq, Value.int.injEq, and_true, true_and]
    | (refine E.CALL.use (fmtLog_i ((l.drop i).take 1) ?_ ?_) ?_ <;> (try simp only [go_sem]))
    | (refine E.CALL.use (isLog_i _ ?_) ?_ <;> (try simp only [go_sem]))
    | (refine E.CALL.use (chk_i _ ?_) ?_ <;> (try simp only [go_sem]))
    | (refine E.GB.use (fun h => ?_) (fun h => ?_) <;> (simp only [go_sem, h]) <;> (try simp only [decide_eq_true_eq, decide_eq_false_iff_not, Bool.not_eq_true', Bool.not_eq_false', Bool.not_eq_true, Bool.not_eq_false, beq_iff_eq, beq_eq_false_iff_ne, bne_iff_ne, bne_eq_false_iff_eq, Int.not_lt, Int.not_le, ne_eq] at h))
    | exact E.INDEP.mk2 (by kernel_rfl)
    | exact E.RK.mk (by kernel_rfl)
    | (refine E.IX_map ?_ (fun hx => ?_); rotate_left; simp only [go_sem])
    | (refine E.loopR (ι := Nat × List Int) 5 rfl (fun ⟨i, out⟩ => [(.s 12, .v (.c (.v (vi i)))), (.s 3, .v (.c (.r (9, 0) 0 [] 0 (out).length))), (.k (9, 0), .e ⟨0, 1, (out).map eInt⟩)]) [0, 2, 11, 33] [(9, 0)] [] (fun ⟨i, out⟩ => l.length - i) (fun ⟨i, out⟩ => i ≤ l.length ∧ out.length = i + 1 ∧ out = digUp l i) mix (by kernel_rfl) (0, [11]) ?_ ?_ (fun ⟨i, out⟩ ⟨hi, hn, ho⟩ => ?_); all_goals (try simp (maxSteps := 900000) only [go_sem]); all_goals (try dsimp only at hi hn ho))
    | (refine E.NEXT.use [((9, 0), (31, 0))] (i + 1, out ++ [(31 * at' out i + chk (fmtE (at' l i))).tmod 9973]) ?_ ?_ ?_; rotate_left 2; focus (simp (maxSteps := 900000) only [go_sem]; (repeat' (first | with_reducible rfl | exact E.RK.mk (by kernel_rfl) | apply And.intro | (push_cast; with_reducible rfl) | (refine E.int_c ?_; omega) | (simp only [go_sem]; done) | (rw [List.map_append]; rfl) | (simp; done) | (simp only [*]; done) | ((rw [one_at (by omega), List.map_append]; rfl); done) | ((refine E.int_c ?_; rw [one_at (by omega)]); done) | ((refine E.int_c ?_; rw [one_at (by omega), Int.mul_comm]); done) | ((rw [one_at (by omega), Int.mul_comm, List.map_append]; rfl); done) | fail)); done))
    | apply And.intro
    | omega
    | (simp only [List.length_take, List.length_drop, List.length_append, List.length_set, List.length_cons, List.length_nil]; omega)
    | refine congrArg (List.map _) ?_
    | (exact one_log (by with_reducible assumption) (by omega); done)
    | (exact dig_step ho (by omega); done)
    | (have q := fmtE_size (at' ((l.drop i).take 1) 0); omega; done)
    | ((have q := dig_in ho; unfold in64 at q; have q2 := chk_b (fmtE (at' l i)); rw [one_at (by omega)]; omega); done)
    | ((have q := dig_b ho; have q2 := chk_b (fmtE (at' ((l.drop i).take 1) 0)); (first | omega | (unfold in64; omega))); done)
    | ((rw [digL_n (by with_reducible assumption)]; rfl); done)
    | ((have e : i = l.length := (by omega); subst e; rw [digL_y (by with_reducible assumption), ho]); done)
    | (rfl; done)
    | fail)

theorem digOf_i (l : List LEnt) (n : Int) (hl : l.length ≤ 1048576) : Fn Go.Proofs.Tryd.prog 18 [.c (.s false 7 (l.map eLEnt)), .c (.v (vi n))] [.c .d, .c .d] [.c (.v (vi (digOf l n)))] := by
  refine E.Fn.ev (n := 18) mdL false mix Go.Proofs.Tryd.func18 rfl (by simp [Go.Proofs.Tryd.f18]) Go.Proofs.Tryd.ntmps18 (by simp) (by kernel_rfl) (rs := [.tmp 4]) (tys := [3]) rfl rfl (by simp [finOK, A.ts, OWN, ownE, ownT]) (by simp [resOK, A.ts, OWN, ownE, ownT, DE]) ?_
  simp only [go_sem]
  repeat' (first
    | simp only [List.cons.injEq, A.c.injEq, A.a.injEq, T.v.injEq, T.s.injEq, Value.bool.injEq, Value.int.injEq, and_true, true_and]
    | (refine E.CALL.use (digL_i _ ?_) ?_ <;> (try simp only [go_sem]))
    | (refine E.CALL.use (in_i _ _ _) ?_ <;> (try simp only [go_sem]))
    | (refine E.GB.use (fun h => ?_) (fun h => ?_) <;> (simp only [go_sem, h]) <;> (try simp only [decide_eq_true_eq, decide_eq_false_iff_not, Bool.not_eq_true', Bool.not_eq_false', Bool.not_eq_true, Bool.not_eq_false, beq_iff_eq, beq_eq_false_iff_ne, bne_iff_ne, bne_eq_false_iff_eq, Int.not_lt, Int.not_le, ne_eq] at h))
    | (refine E.IX_map ?_ (fun hx => ?_); rotate_left; simp only [go_sem])
    | apply And.intro
    | omega
    | (have q := digL_len l; omega; done)
    | (have q := inR_of (by with_reducible assumption); omega; done)
    | (rw [digOf_y (by with_reducible assumption)]; done)
    | (rw [digOf_n (by with_reducible assumption)]; done)
    | fail)

theorem learnedD_i (s : Srv) (hB : SrvB s) : Fn Go.Proofs.Tryd.prog 8 [.a (eSrv false s)] [.a [.d, .d, .d, .d, .d, .d, .d, .d, .d, .d, .d, .d]] [.c (.v (vi (learnedD s)))] := by
  refine E.Fn.ev (n := 9) mdL false mix Go.Proofs.Tryd.func8 rfl (by simp [Go.Proofs.Tryd.f8]) Go.Proofs.Tryd.ntmps8 (by simp) (by kernel_rfl) (rs := [.tmp 2]) (tys := [3]) rfl rfl (by simp [finOK, A.ts, OWN, ownE, ownT]) (by simp [resOK, A.ts, OWN, ownE, ownT, DE]) ?_
  simp only [go_sem]
  repeat' (first
    | simp only [List.cons.injEq, A.c.injEq, A.a.injEq, T.v.injEq, T.s.injEq, Value.bool.injEq, Value.int.injEq, and_true, true_and]
    | (refine E.CALL.use (digOf_i _ _ ?_) ?_ <;> (try simp only [go_sem]))
    | apply And.intro
    | omega
    | (exact hB.learned; done)
    | (rfl; done)
    | fail)

end Go.Abs

/- Contracts of functions of the program, over the abstract machine, and facts for them. No condition. -/
import Derived.Test.YtijifinpifomcaaFacts
import Derived.Test.YtijifinpifomcaaPure28
import Derived.Test.YtijifinpifomcaaQ10
import Derived.Test.YtijifinpifomcaaQ3
import Derived.Test.YtijifinpifomcaaQ8
set_option linter.unusedVariables false
set_option linter.unusedSimpArgs false
set_option linter.unnecessarySimpa false
set_option linter.constructorNameAsVariable false
set_option maxHeartbeats 4000000
set_option maxRecDepth 100000
namespace Go.Abs
open Go
attribute [local go_sem ↓] E.argsA_h E.wq_ret E.wq_req E.wq_bad E.wq_call E.wq_get E.wq_getO E.wq_getOs E.wq_getPs E.wq_fresh E.wq_anyNil E.wq_getR0 E.wq_getR E.wq_ixM E.wq_n E.wq_g E.wq_gn E.ev_skip E.ev_region E.ev_draw E.ev_seq E.ev_cond E.ev_block E.ev_exit E.ev_ret E.sq_n E.sq_e E.sq_r E.bl_n E.bl_e E.bl_r E.lp_n E.lp_e E.lp_r E.fk_n E.fk_r E.q_move E.q_assign E.q_pick E.q_bin E.q_binw E.q_un E.q_alloc E.q_box E.q_build E.q_buildS E.q_makeS E.q_load E.q_store E.q_nilCheck E.q_slice E.q_fieldAddr E.q_field E.q_indexAddr E.q_extract E.q_makeFunc E.q_call E.q_callT E.q_len E.q_append E.q_min E.q_max E.q_convert E.q_cap E.q_clear appendIM appendZM E.b_add E.b_sub E.b_mul E.b_eql E.b_neq E.b_lss E.b_leq E.b_gtr E.b_geq E.GO_tmp E.GO_int E.GO_bool E.GO_str E.GO_nil E.GO_func E.GOs_nil E.GOs_cons E.GPs_nil E.GPs_cons E.RW_nil E.RW_cons E.dstAt_0 E.dstAt_s E.keepL_nil E.keepL_s E.keepL_k E.rmN_nil E.rmN_cons E.memN_nil E.memN_cons E.memK_nil E.memK_cons E.ovl_nil E.ovl_kk E.ovl_sk E.ovl_ks E.ovl_ss ofL_s ofL_sk ofL_ks ofL_k ofL_nil E.CO_tmp E.CO_bool
attribute [local go_sem] E.RM_nil E.RM_cons E.kd_k E.sbr_eq E.s3_nil E.s3_s E.s3_k E.vr_c E.vr_a E.vr_p E.vr_q E.vr_t E.vr_f E.vr_u E.cr_r E.cr_v E.cr_b E.cr_n E.cr_u E.crs_nil E.crs_cons E.renK_nil E.renK_cons keysVs V.keys C.keys keysCs E.RG_nil E.RG_cons E.GV_v E.GB_true E.GB_false E.GX_b E.GG_t E.GG_f E.GG_u E.GU_some E.IX_0 E.IX_s E.CX_s E.FR_none E.EN_e E.GVB_b E.b_boolM E.b_nilM E.b_strM E.b_aggM
attribute [local go_sem] List.cons_append List.nil_append List.append_nil List.length_cons List.length_nil List.length_map List.length_append callM E.argsH_nil E.argsH_cons E.argH_c E.argH_a E.argH_f E.argH_p ptrH_s E.cellsH_nil E.cellsH_cons E.cellH_v E.cellH_b E.cellH_n E.cellH_nt E.cellH_u E.cellH_rt E.cellH_rf capsA capA callable backs backT resVs resV resC tupV lenV intV boolV getE getO entryL entryKs A.ts entryV entryC entryCs entryCap List.map_cons List.map_nil E.cut_n E.cut_r E.cutM plainL A.lastOK T.lastOK Bool.false_or A.capOK szEs szE szT SZ whole toB toC List.drop_zero List.take_zero List.take_succ_cons List.drop_succ_cons resultsM resultM outM outM1 convs conv finAs finA finT finTs Int.toNat_natCast A.plain T.plain List.isEmpty_nil List.isEmpty_cons Bool.or_true Bool.true_or Bool.and_self List.getElem?_cons_zero List.getElem?_cons_succ Option.bind_some Option.bind_none Option.bind Nat.zero_add Nat.add_zero OWN BOR ONE SCAL DE ETA E.take_rest Int.toNat_zero E.take_map E.drop_map E.take_len1 List.take_length E.app_map Int.natCast_zero Int.sub_zero Int.toNat_sub partCells V.cells convsL appendM srcM E.scalEs_nil E.scalEs_cons E.oneEs_nil E.oneEs_cons List.all_cons List.all_nil T.one Bool.and_true gone ownEs ownE ownT borEs borE borT setRow splice List.set_cons_zero List.set_cons_succ optI getOpt sliceM ptrTo app_ofL T.isV Value.oneCell' fillC zeroC spliceC allV eqVs eqV minV maxV setAt setCell holed List.dropLast List.getLast?_singleton Option.getD_some Option.isSome_some Option.isSome_none Bool.and_false Bool.true_and Bool.false_and Option.map_some Option.map_none false_or true_or or_true rowAt cellAt E.constV_nil E.constV_int E.constV_bool E.constV_str E.setCell_set E.setCell_len setRow setAt List.dropLast_cons_cons List.dropLast_singleton List.getLast?_cons_cons
attribute [local go_sem_proc ↓] reduceIte
attribute [local go_sem_proc] Nat.reduceEqDiff reduceCtorEq Nat.reduceAdd Nat.reduceMul
attribute [local irreducible] E.argsH E.argH E.cellsH E.cellH E.GV E.GB E.GX E.GG E.GU E.IX E.CX E.RW E.FR E.EN E.CALL E.GO E.GOs E.GPs E.GVB E.KD E.RM E.RG E.CO E.WQ E.EV E.SQ E.BL E.LP E.FK E.S3 E.RK E.NEXT E.NQ E.INDEP
section
attribute [local go_sem] mdG_eq mdM toNat_pred setI List.length_set mdL_eq
theorem reach_i (l : List Int) (id : Int) (hl : l.length ≤ 1048576) : Fn Go.Proofs.Try.prog 11 [.c (.s false 1 (l.map eInt)), .c (.v (vi id))] [.c .d, .c .d] [.c (.s true 1 ((reachN l id 5).map eInt))] := by
  refine E.Fn.ev (n := 21) mdL false mix Go.Proofs.Try.func11 rfl (by simp [Go.Proofs.Try.f11]) Go.Proofs.Try.ntmps11 (by simp) (by kernel_rfl) (rs := [.tmp 4]) (tys := [24]) rfl rfl (by simp [finOK, A.ts, OWN, ownE, ownT]) (by simp [resOK, A.ts, OWN, ownE, ownT, DE]) ?_
  simp only [go_sem]
  repeat' (first
    | simp only [IJS]
    | (refine E.CALL.use (sameSide_i _ _ _ ?_) ?_ <;> (try simp only [go_sem]))
    | (refine E.GB.use (fun h => ?_) (fun h => ?_) <;> (simp only [go_sem, h]) <;> (try simp only [HFS] at h))
    | exact E.RK.mk (by kernel_rfl)
    | (refine E.loopR (ι := Nat × List Int) 3 rfl (fun ⟨i, out⟩ => [(.s 8, .v (.c (.v (vi i)))), (.s 5, .v (.c (.r (7, 0) 0 [] 0 (out).length))), (.k (7, 0), .e ⟨0, 1, (out).map eInt⟩)]) [0, 1, 4, 20] [(7, 0)] [] (fun ⟨i, out⟩ => 5 - i) (fun ⟨i, out⟩ => i ≤ 5 ∧ out = reachN l id i) mix (by kernel_rfl) (0, []) ?_ ?_ (fun ⟨i, out⟩ ⟨hi, hO⟩ => ?_); all_goals (try simp (maxSteps := 900000) only [go_sem]); all_goals (try dsimp only at hi hO))
    | (refine E.NEXT.use [] (i + 1, out) ?_ ?_ ?_; rotate_left 2; focus (simp (maxSteps := 900000) only [go_sem]; (repeat' (first | with_reducible rfl | exact E.RK.mk (by kernel_rfl) | apply And.intro | (push_cast; with_reducible rfl) | (refine E.int_c ?_; omega) | (simp only [go_sem]; done) | (rw [List.map_append]; rfl) | (simp; done) | (simp only [*]; done) | ((subst hO; rw [← reachN_y h, List.map_append]; rfl); done) | ((subst hO; rw [← reachN_n h]); done) | ((subst hO; rw [reachN_n h]); done) | fail)); done))
    | (refine E.NEXT.use [((7, 0), (18, 0))] (i + 1, out ++ [(i : Int)]) ?_ ?_ ?_; rotate_left 2; focus (simp (maxSteps := 900000) only [go_sem]; (repeat' (first | with_reducible rfl | exact E.RK.mk (by kernel_rfl) | apply And.intro | (push_cast; with_reducible rfl) | (refine E.int_c ?_; omega) | (simp only [go_sem]; done) | (rw [List.map_append]; rfl) | (simp; done) | (simp only [*]; done) | ((subst hO; rw [← reachN_y h, List.map_append]; rfl); done) | ((subst hO; rw [← reachN_n h]); done) | ((subst hO; rw [reachN_n h]); done) | fail)); done))
    | apply And.intro
    | omega
    | refine congrArg (List.map _) ?_
    | (rfl; done)
    | ((have q := reachN_len l id i; subst hO; omega); done)
    | ((subst hO; exact reachN_n h); done)
    | ((subst hO; exact reachN_y h); done)
    | ((subst hO; have e : i = 5 := (by omega); subst e; rfl); done)
    | fail)
theorem reach_s (l : List Int) (id : Int) (hl : l.length ≤ 1048576) : Fn Go.Proofs.Try.prog 12 [.c (.s false 1 (l.map eInt)), .c (.v (vi id))] [.c .d, .c .d] [.c (.s true 1 ((reachN l id 5).map eInt))] := by
  refine E.Fn.ev (n := 21) mdL false mix Go.Proofs.Try.func12 rfl (by simp [Go.Proofs.Try.f12]) Go.Proofs.Try.ntmps12 (by simp) (by kernel_rfl) (rs := [.tmp 4]) (tys := [24]) rfl rfl (by simp [finOK, A.ts, OWN, ownE, ownT]) (by simp [resOK, A.ts, OWN, ownE, ownT, DE]) ?_
  simp only [go_sem]
  repeat' (first
    | simp only [IJS]
    | (refine E.CALL.use (sameSide_s _ _ _ ?_) ?_ <;> (try simp only [go_sem]))
    | (refine E.GB.use (fun h => ?_) (fun h => ?_) <;> (simp only [go_sem, h]) <;> (try simp only [HFS] at h))
    | exact E.RK.mk (by kernel_rfl)
    | (refine E.loopR (ι := Nat × List Int) 3 rfl (fun ⟨i, out⟩ => [(.s 6, .v (.c (.v (vi i)))), (.s 5, .v (.c (.r (7, 0) 0 [] 0 (out).length))), (.k (7, 0), .e ⟨0, 1, (out).map eInt⟩)]) [0, 1, 4, 20] [(7, 0)] [] (fun ⟨i, out⟩ => 5 - i) (fun ⟨i, out⟩ => i ≤ 5 ∧ out = reachN l id i) mix (by kernel_rfl) (0, []) ?_ ?_ (fun ⟨i, out⟩ ⟨hi, hO⟩ => ?_); all_goals (try simp (maxSteps := 900000) only [go_sem]); all_goals (try dsimp only at hi hO))
    | (refine E.NEXT.use [] (i + 1, out) ?_ ?_ ?_; rotate_left 2; focus (simp (maxSteps := 900000) only [go_sem]; (repeat' (first | with_reducible rfl | exact E.RK.mk (by kernel_rfl) | apply And.intro | (push_cast; with_reducible rfl) | (refine E.int_c ?_; omega) | (simp only [go_sem]; done) | (rw [List.map_append]; rfl) | (simp; done) | (simp only [*]; done) | ((subst hO; rw [← reachN_y h, List.map_append]; rfl); done) | ((subst hO; rw [← reachN_n h]); done) | ((subst hO; rw [reachN_n h]); done) | fail)); done))
    | (refine E.NEXT.use [((7, 0), (19, 0))] (i + 1, out ++ [(i : Int)]) ?_ ?_ ?_; rotate_left 2; focus (simp (maxSteps := 900000) only [go_sem]; (repeat' (first | with_reducible rfl | exact E.RK.mk (by kernel_rfl) | apply And.intro | (push_cast; with_reducible rfl) | (refine E.int_c ?_; omega) | (simp only [go_sem]; done) | (rw [List.map_append]; rfl) | (simp; done) | (simp only [*]; done) | ((subst hO; rw [← reachN_y h, List.map_append]; rfl); done) | ((subst hO; rw [← reachN_n h]); done) | ((subst hO; rw [reachN_n h]); done) | fail)); done))
    | apply And.intro
    | omega
    | refine congrArg (List.map _) ?_
    | (rfl; done)
    | ((have q := reachN_len l id i; subst hO; omega); done)
    | ((subst hO; exact reachN_n h); done)
    | ((subst hO; exact reachN_y h); done)
    | ((subst hO; have e : i = 5 := (by omega); subst e; rfl); done)
    | fail)
theorem mside_i (l : List Int) (hl : l.length ≤ 1048576) : Fn Go.Proofs.Try.prog 13 [.c (.s false 1 (l.map eInt))] [.c .d] [.c (.s true 1 ((masterSide l).map eInt))] := by
  refine E.Fn.ev (n := 26) mdL false mix Go.Proofs.Try.func13 rfl (by simp [Go.Proofs.Try.f13]) Go.Proofs.Try.ntmps13 (by simp) (by kernel_rfl) (rs := [.tmp 2]) (tys := [24]) rfl rfl (by simp [finOK, A.ts, OWN, ownE, ownT]) (by simp [resOK, A.ts, OWN, ownE, ownT, DE]) ?_
  simp only [go_sem]
  repeat' (first
    | simp only [IJS]
    | (refine E.CALL.use (areSides_i _ ?_) ?_ <;> (try simp only [go_sem]))
    | (refine E.GB.use (fun h => ?_) (fun h => ?_) <;> (simp only [go_sem, h]) <;> (try simp only [HFS] at h))
    | exact E.RK.mk (by kernel_rfl)
    | (refine E.IX_map ?_ (fun hx => ?_); rotate_left; simp only [go_sem])
    | (refine E.loopR (ι := Nat × List Int) 5 rfl (fun ⟨i, out⟩ => [(.s 13, .v (.c (.v (vi i)))), (.s 3, .v (.c (.r (6, 0) 0 [] 0 (out).length))), (.k (6, 0), .e ⟨0, 1, (out).map eInt⟩)]) [2, 11, 12, 25] [(6, 0)] [] (fun ⟨i, out⟩ => l.length - i) (fun ⟨i, out⟩ => i ≤ l.length ∧ out.length ≤ i ∧ out ++ msGo i (l.drop i) = msGo 0 l) mix (by kernel_rfl) (0, []) ?_ ?_ (fun ⟨i, out⟩ ⟨hi, ho, hR⟩ => ?_); all_goals (try simp (maxSteps := 900000) only [go_sem]); all_goals (try dsimp only at hi ho hR))
    | (refine E.NEXT.use [] (i + 1, out) ?_ ?_ ?_; rotate_left 2; focus (simp (maxSteps := 900000) only [go_sem]; (repeat' (first | with_reducible rfl | exact E.RK.mk (by kernel_rfl) | apply And.intro | (push_cast; with_reducible rfl) | (refine E.int_c ?_; omega) | (simp only [go_sem]; done) | (rw [List.map_append]; rfl) | (simp; done) | (simp only [*]; done) | fail)); done))
    | (refine E.NEXT.use [((6, 0), (23, 0))] (i + 1, out ++ [(i : Int)]) ?_ ?_ ?_; rotate_left 2; focus (simp (maxSteps := 900000) only [go_sem]; (repeat' (first | with_reducible rfl | exact E.RK.mk (by kernel_rfl) | apply And.intro | (push_cast; with_reducible rfl) | (refine E.int_c ?_; omega) | (simp only [go_sem]; done) | (rw [List.map_append]; rfl) | (simp; done) | (simp only [*]; done) | fail)); done))
    | apply And.intro
    | omega
    | (simp only [List.length_take, List.length_drop, List.length_append, List.length_set, List.length_cons, List.length_nil]; omega)
    | refine congrArg (List.map _) ?_
    | (exact ms_y (by omega) hR (by assumption); done)
    | (exact ms_n (by omega) hR (by assumption); done)
    | ((rw [ms_e (by omega) hR, master_y (by assumption)]); done)
    | ((rw [master_n (by assumption)]; rfl); done)
    | fail)
theorem has_c (l : List Int) (x : Int) (hl : l.length ≤ 1048576) : Fn Go.Proofs.Try.prog 15 [.c (.s false 1 (l.map eInt)), .c (.v (vi x))] [.c .d, .c .d] [.c (.v (.bool (l.contains x)))] := by
  refine E.Fn.ev (n := 18) mdL false mix Go.Proofs.Try.func15 rfl (by simp [Go.Proofs.Try.f15]) Go.Proofs.Try.ntmps15 (by simp) (by kernel_rfl) (rs := [.tmp 4]) (tys := [4]) rfl rfl (by simp [finOK, A.ts, OWN, ownE, ownT]) (by simp [resOK, A.ts, OWN, ownE, ownT, DE]) ?_
  simp only [go_sem]
  repeat' (first
    | simp only [IJS]
    | (refine E.GB.use (fun h => ?_) (fun h => ?_) <;> (simp only [go_sem, h]) <;> (try simp only [HFS] at h))
    | exact E.RK.mk (by kernel_rfl)
    | (refine E.IX_map ?_ (fun hx => ?_); rotate_left; simp only [go_sem])
    | (refine E.loopR (ι := Nat) 2 rfl (fun i => [(.s 5, .v (.c (.v (vi i))))]) [0, 1] [] [] (fun i => l.length - i) (fun i => i ≤ l.length ∧ (l.drop i).contains x = l.contains x) mix (by kernel_rfl) 0 ?_ ?_ (fun i ⟨hi, hR⟩ => ?_); all_goals (try simp (maxSteps := 900000) only [go_sem]); all_goals (try dsimp only at hi hR))
    | (refine E.NEXT.use [] (i + 1) ?_ ?_ ?_; rotate_left 2; focus (simp (maxSteps := 900000) only [go_sem]; (repeat' (first | with_reducible rfl | exact E.RK.mk (by kernel_rfl) | apply And.intro | (push_cast; with_reducible rfl) | (refine E.int_c ?_; omega) | (simp only [go_sem]; done) | (rw [List.map_append]; rfl) | (simp; done) | (simp only [*]; done) | fail)); done))
    | apply And.intro
    | omega
    | (exact (lhas_y (i := i) (by omega) (by assumption)).symm; done)
    | (exact lhas_s (by omega) hR (by assumption); done)
    | (exact (lhas_e (by omega) hR).symm; done)
    | fail)
theorem sameInts_c (a : List Int) (b : List Int) (hl : a.length ≤ 1048576) (hl2 : b.length ≤ 1048576) : Fn Go.Proofs.Try.prog 8 [.c (.s false 1 (a.map eInt)), .c (.s false 1 (b.map eInt))] [.c .d, .c .d] [.c (.v (.bool (decide (a = b))))] := by
  refine E.Fn.ev (n := 26) mdL false mix Go.Proofs.Try.func8 rfl (by simp [Go.Proofs.Try.f8]) Go.Proofs.Try.ntmps8 (by simp) (by kernel_rfl) (rs := [.tmp 4]) (tys := [4]) rfl rfl (by simp [finOK, A.ts, OWN, ownE, ownT]) (by simp [resOK, A.ts, OWN, ownE, ownT, DE]) ?_
  simp only [go_sem]
  repeat' (first
    | simp only [IJS]
    | (refine E.GB.use (fun h => ?_) (fun h => ?_) <;> (simp only [go_sem, h]) <;> (try simp only [HFS] at h))
    | exact E.INDEP.mk2 (by kernel_rfl)
    | exact E.RK.mk (by kernel_rfl)
    | (refine E.IX_map ?_ (fun hx => ?_); rotate_left; simp only [go_sem])
    | (refine E.loopR (ι := Nat) 4 rfl (fun i => [(.s 5, .v (.c (.v (vi i))))]) [0, 1] [] [] (fun i => a.length - i) (fun i => i ≤ a.length ∧ decide (a.drop i = b.drop i) = decide (a = b)) mix (by kernel_rfl) 0 ?_ ?_ (fun i ⟨hi, hR⟩ => ?_); all_goals (try simp (maxSteps := 900000) only [go_sem]); all_goals (try dsimp only at hi hR))
    | (refine E.NEXT.use [] (i + 1) ?_ ?_ ?_; rotate_left 2; focus (simp (maxSteps := 900000) only [go_sem]; (repeat' (first | with_reducible rfl | exact E.RK.mk (by kernel_rfl) | apply And.intro | (push_cast; with_reducible rfl) | (refine E.int_c ?_; omega) | (simp only [go_sem]; done) | (rw [List.map_append]; rfl) | (simp; done) | (simp only [*]; done) | fail)); done))
    | apply And.intro
    | omega
    | (exact lsame_y (by omega) (by omega) hR (by assumption); done)
    | (exact (lsame_n (by omega) (by omega) hR (by assumption)).symm; done)
    | (exact (lsame_e (by omega) (by omega) hR).symm; done)
    | (exact (lsame_l (by omega)).symm; done)
    | fail)
end
section
attribute [local go_sem] mdG_eq mdM toNat_pred setI List.length_set mdL_eq eq_self decide_true
attribute [local irreducible] drawMove reachN moveSide masterSide sameSide areSides
theorem big_c  [Amb] (a : Option Addr) (cap : Nat) (b : List Int) : Fn Go.Proofs.Try.prog 4 [.c (.v (.slice a b.length cap))] [.c .d] [.c (.v (.bool (decide ((1048576 : Int) < (b.length : Int)))))] := by
  refine E.Fn.ev (n := 6) mdL false mix Go.Proofs.Try.func4 rfl (by simp [Go.Proofs.Try.f4]) Go.Proofs.Try.ntmps4 (by simp) (by kernel_rfl) (rs := [.tmp 2]) (tys := [4]) rfl rfl (by simp [finOK, A.ts, OWN, ownE, ownT, ownEs]) (by simp [resOK, A.ts, OWN, ownE, ownT, DE, ownEs]) ?_
  simp only [go_sem]
  repeat' (first
    | simp only [IJS]
    | fail)
end
section
attribute [local go_sem] mdG_eq mdM toNat_pred setI List.length_set
theorem clone_c (l : List Int) (hl : l.length ≤ 1048576) : Fn Go.Proofs.Try.prog 21 [.c (.s false 1 (l.map eInt))] [.c .d] [.c (.s true 1 ((l).map eInt))] := by
  refine E.Fn.ev (n := 8) mdG false mix Go.Proofs.Try.func21 rfl (by simp [Go.Proofs.Try.f21]) Go.Proofs.Try.ntmps21 (by simp) (by kernel_rfl) (rs := [.tmp 2]) (tys := [24]) rfl rfl (by simp [finOK, A.ts, OWN, ownE, ownT]) (by simp [resOK, A.ts, OWN, ownE, ownT, DE]) ?_
  simp only [go_sem]
  repeat' (first
    | simp only [IJS]
    | (refine E.GB.use (fun h => ?_) (fun h => ?_) <;> (simp only [go_sem, h]) <;> (try simp only [HFS] at h))
    | (refine E.NQ.use (fun b hb => ?_); simp only [go_sem])
    | apply And.intro
    | omega
    | (exact (hb h).symm; done)
    | fail)
end
section
attribute [local go_sem] mdG_eq mdM toNat_pred setI List.length_set eLI_eq eLE_eq
theorem moveSide_s (l : List Int) (id : Int) (s : Int) (hl : l.length ≤ 1048576) : Fn Go.Proofs.Try.prog 7 [.c (.s false 1 (l.map eInt)), .c (.v (vi id)), .c (.v (vi s))] [.c .d, .c .d, .c .d] [.c (.s true 1 (((moveSide l id s).1).map eInt)), .c (.v (.bool ((moveSide l id s).2)))] := by
  refine E.Fn.ev (n := 31) mdG false mix Go.Proofs.Try.func7 rfl (by simp [Go.Proofs.Try.f7]) Go.Proofs.Try.ntmps7 (by simp) (by kernel_rfl) (rs := [.tmp 6, .tmp 7]) (tys := [24, 4]) rfl rfl (by simp [finOK, A.ts, OWN, ownE, ownT]) (by simp [resOK, A.ts, OWN, ownE, ownT, DE]) ?_
  simp only [go_sem]
  repeat' (first
    | simp only [IJS]
    | (refine E.CALL.use (areSides_s _ ?_) ?_ <;> (try simp only [go_sem]))
    | (refine E.CALL.use (in_s _ _ _) ?_ <;> (try simp only [go_sem]))
    | (refine E.GB.use (fun h => ?_) (fun h => ?_) <;> (simp only [go_sem, h]) <;> (try simp only [HFS] at h))
    | (refine E.IX_map ?_ (fun hx => ?_); rotate_left; simp only [go_sem])
    | apply And.intro
    | omega
    | refine congrArg (List.map _) ?_
    | (have q1 := areSides_len (l := l) (by assumption); have q2 := inR_of (x := id) (by assumption); omega; done)
    | (simp [moveSide, *]; done)
    | fail)
theorem moveSide_i (l : List Int) (id : Int) (s : Int) (hl : l.length ≤ 1048576) : Fn Go.Proofs.Try.prog 6 [.c (.s false 1 (l.map eInt)), .c (.v (vi id)), .c (.v (vi s))] [.c .d, .c .d, .c .d] [.c (.s true 1 (((moveSide l id s).1).map eInt)), .c (.v (.bool ((moveSide l id s).2)))] := by
  refine E.Fn.ev (n := 30) mdG false mix Go.Proofs.Try.func6 rfl (by simp [Go.Proofs.Try.f6]) Go.Proofs.Try.ntmps6 (by simp) (by kernel_rfl) (rs := [.tmp 6, .tmp 7]) (tys := [24, 4]) rfl rfl (by simp [finOK, A.ts, OWN, ownE, ownT]) (by simp [resOK, A.ts, OWN, ownE, ownT, DE]) ?_
  simp only [go_sem]
  repeat' (first
    | simp only [IJS]
    | (refine E.CALL.use (clone_c _ ?_) ?_ <;> (try simp only [go_sem]))
    | (refine E.CALL.use (areSides_i _ ?_) ?_ <;> (try simp only [go_sem]))
    | (refine E.CALL.use (in_i _ _ _) ?_ <;> (try simp only [go_sem]))
    | (refine E.GB.use (fun h => ?_) (fun h => ?_) <;> (simp only [go_sem, h]) <;> (try simp only [HFS] at h))
    | (refine E.IX_map ?_ (fun hx => ?_); rotate_left; simp only [go_sem])
    | apply And.intro
    | omega
    | refine congrArg (List.map _) ?_
    | (have q1 := areSides_len (l := l) (by assumption); have q2 := inR_of (x := id) (by assumption); omega; done)
    | (simp [moveSide, *]; done)
    | fail)
end
section
attribute [local go_sem] mdG_eq mdM toNat_pred setI List.length_set eLI_eq eLE_eq
theorem mside_s (l : List Int) (hl : l.length ≤ 1048576) : Fn Go.Proofs.Try.prog 14 [.c (.s false 1 (l.map eInt))] [.c .d] [.c (.s true 1 ((masterSide l).map eInt))] := by
  refine E.Fn.ev (n := 26) mdG false mix Go.Proofs.Try.func14 rfl (by simp [Go.Proofs.Try.f14]) Go.Proofs.Try.ntmps14 (by simp) (by kernel_rfl) (rs := [.tmp 2]) (tys := [24]) rfl rfl (by simp [finOK, A.ts, OWN, ownE, ownT]) (by simp [resOK, A.ts, OWN, ownE, ownT, DE]) ?_
  simp only [go_sem]
  repeat' (first
    | simp only [IJS]
    | (refine E.CALL.use (areSides_s _ ?_) ?_ <;> (try simp only [go_sem]))
    | (refine E.GB.use (fun h => ?_) (fun h => ?_) <;> (simp only [go_sem, h]) <;> (try simp only [HFS] at h))
    | exact E.RK.mk (by kernel_rfl)
    | (refine E.IX_map ?_ (fun hx => ?_); rotate_left; simp only [go_sem])
    | (refine E.loopR (ι := Nat × List Int) 3 rfl (fun ⟨i, out⟩ => [(.s 4, .v (.c (.v (vi i)))), (.s 3, .v (.c (.r (5, 0) 0 [] 0 (out).length))), (.k (5, 0), .e ⟨0, 1, (out).map eInt⟩)]) [0, 2, 25] [(5, 0)] [] (fun ⟨i, out⟩ => l.length - i) (fun ⟨i, out⟩ => i ≤ l.length ∧ out.length ≤ i ∧ (if areSides l then out ++ msGo i (l.drop i) else out) = masterSide l ∧ (areSides l = false → out = [])) mix (by kernel_rfl) (0, []) ?_ ?_ (fun ⟨i, out⟩ ⟨hi, ho, hR, hQ⟩ => ?_); all_goals (try simp (maxSteps := 900000) only [go_sem]); all_goals (try dsimp only at hi ho hR hQ))
    | (refine E.NEXT.use [] (i + 1, out) ?_ ?_ ?_; rotate_left 2; focus (simp (maxSteps := 900000) only [go_sem]; (repeat' (first | with_reducible rfl | exact E.RK.mk (by kernel_rfl) | apply And.intro | (push_cast; with_reducible rfl) | (refine E.int_c ?_; omega) | (simp only [go_sem]; done) | (rw [List.map_append]; rfl) | (simp; done) | (simp only [*]; done) | fail)); done))
    | (refine E.NEXT.use [((5, 0), (24, 0))] (i + 1, out ++ [(i : Int)]) ?_ ?_ ?_; rotate_left 2; focus (simp (maxSteps := 900000) only [go_sem]; (repeat' (first | with_reducible rfl | exact E.RK.mk (by kernel_rfl) | apply And.intro | (push_cast; with_reducible rfl) | (refine E.int_c ?_; omega) | (simp only [go_sem]; done) | (rw [List.map_append]; rfl) | (simp; done) | (simp only [*]; done) | fail)); done))
    | apply And.intro
    | omega
    | (simp only [List.length_take, List.length_drop, List.length_append, List.length_set, List.length_cons, List.length_nil]; omega)
    | refine congrArg (List.map _) ?_
    | (rw [drop_at (l := l) (i := i) (by omega)] at hR; simp only [h, msGo, if_true, if_false, *] at hR; simpa [*] using hR; done)
    | (rw [E.drop_end (l := l) (i := i) (by omega)] at hR; simp only [msGo, List.append_nil, ite_self] at hR; exact hR; done)
    | (simp [*]; done)
    | (simp [masterSide]; done)
    | fail)
end
end Go.Abs

/- Contracts of functions of the program, over the abstract machine, and facts for them. No condition. -/
import Derived.Test.YtedbdcjpdamhcaaGreatFacts
import Derived.Test.YtedbdcjpdamhcaaGreatPure19
import Derived.Test.YtedbdcjpdamhcaaGreatQ10
import Derived.Test.YtedbdcjpdamhcaaGreatQ13
import Derived.Test.YtedbdcjpdamhcaaGreatQ16
import Derived.Test.YtedbdcjpdamhcaaGreatQ3
import Derived.Test.YtedbdcjpdamhcaaGreatQ4
import Derived.Test.YtedbdcjpdamhcaaGreatQ8
import Derived.Test.YtedbdcjpdamhcaaGreatQ9
set_option linter.unusedVariables false
set_option linter.unusedSimpArgs false
set_option linter.unnecessarySimpa false
set_option linter.constructorNameAsVariable false
set_option maxHeartbeats 4000000
set_option maxRecDepth 100000
namespace Go.Abs
open Go
attribute [local go_sem ↓] E.argsA_h E.wq_ret E.wq_req E.wq_bad E.wq_call E.wq_get E.wq_getO E.wq_getOs E.wq_getPs E.wq_fresh E.wq_anyNil E.wq_getR0 E.wq_getR E.wq_ixM E.wq_n E.wq_g E.wq_gn E.ev_skip E.ev_region E.ev_draw E.ev_seq E.ev_cond E.ev_block E.ev_exit E.ev_ret E.sq_n E.sq_e E.sq_r E.bl_n E.bl_e E.bl_r E.lp_n E.lp_e E.lp_r E.fk_n E.fk_r E.q_move E.q_assign E.q_pick E.q_bin E.q_binw E.q_un E.q_alloc E.q_box E.q_build E.q_buildS E.q_makeS E.q_load E.q_store E.q_nilCheck E.q_slice E.q_fieldAddr E.q_field E.q_indexAddr E.q_extract E.q_makeFunc E.q_call E.q_callT E.q_len E.q_append E.q_min E.q_max E.q_convert E.q_cap E.q_clear appendIM appendZM E.b_add E.b_sub E.b_mul E.b_eql E.b_neq E.b_lss E.b_leq E.b_gtr E.b_geq E.GO_tmp E.GO_int E.GO_bool E.GO_str E.GO_nil E.GO_func E.GOs_nil E.GOs_cons E.GPs_nil E.GPs_cons E.RW_nil E.RW_cons E.dstAt_0 E.dstAt_s E.keepL_nil E.keepL_s E.keepL_k E.rmN_nil E.rmN_cons E.memN_nil E.memN_cons E.memK_nil E.memK_cons E.ovl_nil E.ovl_kk E.ovl_sk E.ovl_ks E.ovl_ss ofL_s ofL_sk ofL_ks ofL_k ofL_nil E.CO_tmp E.CO_bool
attribute [local go_sem] E.RM_nil E.RM_cons E.kd_k E.sbr_eq E.s3_nil E.s3_s E.s3_k E.vr_c E.vr_a E.vr_p E.vr_q E.vr_t E.vr_f E.vr_u E.cr_r E.cr_v E.cr_b E.cr_n E.cr_u E.crs_nil E.crs_cons E.renK_nil E.renK_cons keysVs V.keys C.keys keysCs E.RG_nil E.RG_cons E.GV_v E.GB_true E.GB_false E.GX_b E.GG_t E.GG_f E.GG_u E.GU_some E.IX_0 E.IX_s E.CX_s E.FR_none E.EN_e E.GVB_b E.b_boolM E.b_nilM E.b_strM E.b_aggM
attribute [local go_sem] List.cons_append List.nil_append List.append_nil List.length_cons List.length_nil List.length_map List.length_append callM E.argsH_nil E.argsH_cons E.argH_c E.argH_a E.argH_f E.cellsH_nil E.cellsH_cons E.cellH_v E.cellH_b E.cellH_n E.cellH_nt E.cellH_u E.cellH_rt E.cellH_rf capsA capA callable backs backT resVs resV resC tupV lenV intV boolV getE getO entryL entryKs A.ts entryV entryC entryCs entryCap List.map_cons List.map_nil E.cut_n E.cut_r E.cutM plainL A.capOK szEs szE szT SZ whole toB toC List.drop_zero List.take_zero List.take_succ_cons List.drop_succ_cons resultsM resultM outM outM1 convs conv finAs finA finT finTs Int.toNat_natCast A.plain T.plain List.isEmpty_nil List.isEmpty_cons Bool.or_true Bool.true_or Bool.and_self List.getElem?_cons_zero List.getElem?_cons_succ Option.bind_some Option.bind_none Option.bind Nat.zero_add Nat.add_zero OWN BOR ONE SCAL DE ETA E.take_rest Int.toNat_zero E.take_map E.drop_map E.take_len1 List.take_length E.app_map Int.natCast_zero Int.sub_zero Int.toNat_sub partCells V.cells convsL appendM srcM E.scalEs_nil E.scalEs_cons E.oneEs_nil E.oneEs_cons List.all_cons List.all_nil T.one Bool.and_true gone ownEs ownE ownT borEs borE borT setRow splice List.set_cons_zero List.set_cons_succ optI getOpt sliceM ptrTo app_ofL T.isV Value.oneCell' fillC zeroC spliceC allV eqVs eqV minV maxV setAt setCell holed List.dropLast List.getLast?_singleton Option.getD_some Option.isSome_some Option.isSome_none Bool.and_false Bool.true_and Bool.false_and Option.map_some Option.map_none false_or true_or or_true rowAt cellAt E.constV_nil E.constV_int E.constV_bool E.constV_str E.setCell_set E.setCell_len setRow setAt List.dropLast_cons_cons List.dropLast_singleton List.getLast?_cons_cons
attribute [local go_sem_proc ↓] reduceIte
attribute [local go_sem_proc] Nat.reduceEqDiff reduceCtorEq Nat.reduceAdd Nat.reduceMul
attribute [local irreducible] E.argsH E.argH E.cellsH E.cellH E.GV E.GB E.GX E.GG E.GU E.IX E.CX E.RW E.FR E.EN E.CALL E.GO E.GOs E.GPs E.GVB E.KD E.RM E.RG E.CO E.WQ E.EV E.SQ E.BL E.LP E.FK E.S3 E.RK E.NEXT E.NQ E.INDEP
attribute [local go_sem] mdG_eq mdM toNat_pred setI List.length_set mdL_eq E.b_rem
theorem racks_s (l : List Plc) (ms : List Int) (hl : l.length ≤ 1048576) (hm : ms.length ≤ 12) : Fn Go.Proofs.Tryz.prog 70 [.c (.s false 3 (l.map ePlc)), .c (.s false 1 (ms.map eInt))] [.c .d, .c .d] [.c (.s true 1 ((racksOf l ms).map eInt))] := by
  refine E.Fn.ev (n := 33) mdL false mix Go.Proofs.Tryz.func70 rfl (by simp [Go.Proofs.Tryz.f70]) Go.Proofs.Tryz.ntmps70 (by simp) (by kernel_rfl) (rs := [.tmp 4]) (tys := [23]) rfl rfl (by simp [finOK, A.ts, OWN, ownE, ownT]) (by simp [resOK, A.ts, OWN, ownE, ownT, DE]) ?_
  simp only [go_sem]
  repeat' (first
    | simp only [IJS]
    | (refine E.CALL.use (arePlc_s _ ?_) ?_ <;> (try simp only [go_sem]))
    | (refine E.CALL.use (areSrv_s _ ?_) ?_ <;> (try simp only [go_sem]))
    | (refine E.CALL.use (put_s _ _ ?_) ?_ <;> (try simp only [go_sem]))
    | (refine E.GB.use (fun h => ?_) (fun h => ?_) <;> (simp only [go_sem, h]) <;> (try simp only [HFS] at h))
    | exact E.RK.mk (by kernel_rfl)
    | (refine E.IX_map ?_ (fun hx => ?_); rotate_left; simp only [go_sem])
    | (refine E.loopR (ι := Nat × List Int) 3 rfl (fun ⟨i, out⟩ => [(.s 6, .v (.c (.v (vi i)))), (.s 5, .v (.c (.r (7, 0) 0 [] 0 (out).length))), (.k (7, 0), .e ⟨0, 1, (out).map eInt⟩)]) [0, 1, 4, 32] [(7, 0)] [] (fun ⟨i, out⟩ => ms.length - i) (fun ⟨i, out⟩ => i ≤ ms.length ∧ out.length ≤ i ∧ (if arePlaces l && areServers ms then ((ms.drop i).map (fun id : Int => (at' l id.toNat).rack)).foldl putI out else out) = racksOf l ms ∧ ((arePlaces l && areServers ms) = false → out = [])) mix (by kernel_rfl) (0, []) ?_ ?_ (fun ⟨i, out⟩ ⟨hi, ho, hR, hN⟩ => ?_); all_goals (try simp (maxSteps := 900000) only [go_sem]); all_goals (try dsimp only at hi ho hR hN))
    | (refine E.NEXT.use [((7, 0), (31, 0))] (i + 1, putI out (at' l (at' ms i).toNat).rack) ?_ ?_ ?_; rotate_left 2; focus (simp (maxSteps := 900000) only [go_sem]; (repeat' (first | with_reducible rfl | exact E.RK.mk (by kernel_rfl) | apply And.intro | (push_cast; with_reducible rfl) | (refine E.int_c ?_; omega) | (simp only [go_sem]; done) | (rw [List.map_append]; rfl) | (simp; done) | (simp only [*]; done) | fail)); done))
    | apply And.intro
    | omega
    | refine congrArg (List.map _) ?_
    | (have q := srv_at (ms := ms) (by assumption) (i := i) (by omega); have q2 := arePlaces_len (l := l) (by assumption); omega; done)
    | (have := putI_len out (at' l (at' ms i).toNat).rack; omega; done)
    | (rw [drop_at (l := ms) (i := i) (by omega)] at hR; simp only [List.map_cons, List.foldl_cons, *] at hR; simpa [*] using hR; done)
    | (rw [E.drop_end (l := ms) (i := i) (by omega)] at hR; simpa using hR; done)
    | (simp [racksOf, puts]; done)
    | fail)
theorem racks_i (l : List Plc) (ms : List Int) (hl : l.length ≤ 1048576) (hm : ms.length ≤ 12) : Fn Go.Proofs.Tryz.prog 89 [.c (.s false 3 (l.map ePlc)), .c (.s false 1 (ms.map eInt))] [.c .d, .c .d] [.c (.s true 1 ((racksOf l ms).map eInt))] := by
  refine E.Fn.ev (n := 35) mdL false mix Go.Proofs.Tryz.func89 rfl (by simp [Go.Proofs.Tryz.f89]) Go.Proofs.Tryz.ntmps89 (by simp) (by kernel_rfl) (rs := [.tmp 4]) (tys := [23]) rfl rfl (by simp [finOK, A.ts, OWN, ownE, ownT]) (by simp [resOK, A.ts, OWN, ownE, ownT, DE]) ?_
  simp only [go_sem]
  repeat' (first
    | simp only [IJS]
    | (refine E.CALL.use (arePlc_i _ ?_) ?_ <;> (try simp only [go_sem]))
    | (refine E.CALL.use (areSrv_i _ ?_) ?_ <;> (try simp only [go_sem]))
    | (refine E.CALL.use (asc_c _ ?_) ?_ <;> (try simp only [go_sem]))
    | (refine E.GB.use (fun h => ?_) (fun h => ?_) <;> (simp only [go_sem, h]) <;> (try simp only [HFS] at h))
    | exact E.RK.mk (by kernel_rfl)
    | (refine E.IX_map ?_ (fun hx => ?_); rotate_left; simp only [go_sem])
    | (refine E.loopR (ι := Nat × List Int) 5 rfl (fun ⟨i, out⟩ => [(.s 20, .v (.c (.v (vi i)))), (.s 5, .v (.c (.r (8, 0) 0 [] 0 (out).length))), (.k (8, 0), .e ⟨0, 1, (out).map eInt⟩)]) [0, 4, 18, 19, 33, 34] [(8, 0)] [] (fun ⟨i, out⟩ => ms.length - i) (fun ⟨i, out⟩ => i ≤ ms.length ∧ out.length ≤ i ∧ out ++ (ms.drop i).map (fun id : Int => (at' l id.toNat).rack) = ms.map (fun id : Int => (at' l id.toNat).rack)) mix (by kernel_rfl) (0, []) ?_ ?_ (fun ⟨i, out⟩ ⟨hi, ho, hR⟩ => ?_); all_goals (try simp (maxSteps := 900000) only [go_sem]); all_goals (try dsimp only at hi ho hR))
    | (refine E.NEXT.use [((8, 0), (31, 0))] (i + 1, out ++ [(at' l (at' ms i).toNat).rack]) ?_ ?_ ?_; rotate_left 2; focus (simp (maxSteps := 900000) only [go_sem]; (repeat' (first | with_reducible rfl | exact E.RK.mk (by kernel_rfl) | apply And.intro | (push_cast; with_reducible rfl) | (refine E.int_c ?_; omega) | (simp only [go_sem]; done) | (rw [List.map_append]; rfl) | (simp; done) | (simp only [*]; done) | fail)); done))
    | apply And.intro
    | omega
    | (simp only [List.length_take, List.length_drop, List.length_append, List.length_set, List.length_cons, List.length_nil]; omega)
    | refine congrArg (List.map _) ?_
    | (have q := srv_at (ms := ms) (by assumption) (i := i) (by omega); have q2 := arePlaces_len (l := l) (by assumption); omega; done)
    | (rw [drop_at (l := ms) (i := i) (by omega)] at hR; simp only [List.map_cons] at hR; simpa using hR; done)
    | (rw [E.drop_end (l := ms) (i := i) (by omega)] at hR; simp only [List.map_nil, List.append_nil] at hR; rw [hR, racks_y (by assumption) (by assumption)]; done)
    | (rw [racks_n (.inl (by assumption))] <;> rfl; done)
    | (rw [racks_n (.inr (by assumption))] <;> rfl; done)
    | fail)
theorem better_s (l : List Plc) (r : List Int) (a : Int) (b : Int) (hl : l.length = 5) (hr : r.length ≤ 1048576) (ha : 0 ≤ a ∧ a ≤ 4) (hb : 0 ≤ b ∧ b ≤ 4) : Fn Go.Proofs.Tryz.prog 72 [.c (.s false 3 (l.map ePlc)), .c (.s false 1 (r.map eInt)), .c (.v (vi a)), .c (.v (vi b))] [.c .d, .c .d, .c .d, .c .d] [.c (.v (.bool (better l r a b)))] := by
  refine E.Fn.ev (n := 40) mdL false mix Go.Proofs.Tryz.func72 rfl (by simp [Go.Proofs.Tryz.f72]) Go.Proofs.Tryz.ntmps72 (by simp) (by kernel_rfl) (rs := [.tmp 8]) (tys := [4]) rfl rfl (by simp [finOK, A.ts, OWN, ownE, ownT]) (by simp [resOK, A.ts, OWN, ownE, ownT, DE]) ?_
  simp only [go_sem]
  repeat' (first
    | simp only [IJS]
    | (refine E.CALL.use (has_s _ _ ?_) ?_ <;> (try simp only [go_sem]))
    | (refine E.GB.use (fun h => ?_) (fun h => ?_) <;> (simp only [go_sem, h]) <;> (try simp only [HFS] at h))
    | exact E.INDEP.mk2 (by kernel_rfl)
    | (refine E.IX_map ?_ (fun hx => ?_); rotate_left; simp only [go_sem])
    | apply And.intro
    | omega
    | (unfold better; dsimp only; rw [if_pos (by assumption)]; done)
    | (unfold better; dsimp only; rw [if_neg (by assumption)]; done)
    | fail)
theorem spare_s_c (l : List Plc) (ms : List Int) (av : List Int) (hl : l.length ≤ 1048576) (hm : ms.length ≤ 12) (hv : av.length ≤ 1048576) : Fn Go.Proofs.Tryz.prog 24 [.c (.s false 3 (l.map ePlc)), .c (.s false 1 (ms.map eInt)), .c (.s false 1 (av.map eInt))] [.c .d, .c .d, .c .d] [.c (.v (vi (spare l ms av)))] := by
  refine E.Fn.ev (n := 46) mdL false mix Go.Proofs.Tryz.func24 rfl (by simp [Go.Proofs.Tryz.f24]) Go.Proofs.Tryz.ntmps24 (by simp) (by kernel_rfl) (rs := [.tmp 6]) (tys := [3]) rfl rfl (by simp [finOK, A.ts, OWN, ownE, ownT]) (by simp [resOK, A.ts, OWN, ownE, ownT, DE]) ?_
  simp only [go_sem]
  repeat' (first
    | simp only [IJS]
    | (refine E.CALL.use (racks_s _ _ ?_ ?_) ?_ <;> (try simp only [go_sem]))
    | (refine E.CALL.use (areSrv_s _ ?_) ?_ <;> (try simp only [go_sem]))
    | (refine E.CALL.use (hasRoom_s _ _ ?_) ?_ <;> (try simp only [go_sem]))
    | (refine E.CALL.use (has_s _ _ ?_) ?_ <;> (try simp only [go_sem]))
    | (refine E.CALL.use (better_s _ _ _ _ ?_ ?_ ?_ ?_) ?_ <;> (try simp only [go_sem]))
    | (refine E.GB.use (fun h => ?_) (fun h => ?_) <;> (simp only [go_sem, h]) <;> (try simp only [HFS] at h))
    | exact E.RK.mk (by kernel_rfl)
    | (refine E.loopR (ι := Nat × Int) 4 rfl (fun ⟨i, b⟩ => [(.s 9, .v (.c (.v (vi i)))), (.s 7, .v (.c (.v (vi b))))]) [0, 1, 2, 6, 8, 45] [] [] (fun ⟨i, b⟩ => 5 - i) (fun ⟨i, b⟩ => i ≤ 5 ∧ (if areServers ms then spareGo l ms av (racksOf l ms) (([0, 1, 2, 3, 4] : List Int).drop i) b else b) = spare l ms av ∧ -1 ≤ b ∧ b < i ∧ (areServers ms = false → b = -1)) mix (by kernel_rfl) (0, -1) ?_ ?_ (fun ⟨i, b⟩ ⟨hi, hR, hb, hb2, hN⟩ => ?_); all_goals (try simp (maxSteps := 900000) only [go_sem]); all_goals (try dsimp only at hi hR hb hb2 hN))
    | (refine E.NEXT.use [] (i + 1, (i : Int)) ?_ ?_ ?_; rotate_left 2; focus (simp (maxSteps := 900000) only [go_sem]; (repeat' (first | with_reducible rfl | exact E.RK.mk (by kernel_rfl) | apply And.intro | (push_cast; with_reducible rfl) | (refine E.int_c ?_; omega) | (simp only [go_sem]; done) | (rw [List.map_append]; rfl) | (simp; done) | (simp only [*]; done) | fail)); done))
    | (refine E.NEXT.use [] (i + 1, b) ?_ ?_ ?_; rotate_left 2; focus (simp (maxSteps := 900000) only [go_sem]; (repeat' (first | with_reducible rfl | exact E.RK.mk (by kernel_rfl) | apply And.intro | (push_cast; with_reducible rfl) | (refine E.int_c ?_; omega) | (simp only [go_sem]; done) | (rw [List.map_append]; rfl) | (simp; done) | (simp only [*]; done) | fail)); done))
    | apply And.intro
    | omega
    | (have q := racks_len l ms; omega; done)
    | (have q := hasRoom_of (l := l) (id := i) (by assumption); omega; done)
    | (rw [if_pos (by assumption)] at hR ⊢; exact spare_s (by omega) hR (takes_y1 (by assumption) (by assumption) (by assumption) (by omega)); done)
    | (rw [if_pos (by assumption)] at hR ⊢; exact spare_s (by omega) hR (takes_y2 (by assumption) (by assumption) (by assumption) (by assumption)); done)
    | (rw [if_pos (by assumption)] at hR ⊢; exact spare_n (by omega) hR (takes_n1 (by assumption)); done)
    | (rw [if_pos (by assumption)] at hR ⊢; exact spare_n (by omega) hR (takes_n2 (by assumption)); done)
    | (rw [if_pos (by assumption)] at hR ⊢; exact spare_n (by omega) hR (takes_n3 (by assumption)); done)
    | (rw [if_pos (by assumption)] at hR ⊢; exact spare_n (by omega) hR (takes_n4 (by omega) (by assumption)); done)
    | (exact spare_e2 (by omega) hR; done)
    | (rw [if_neg (by simp [*])] at hR; exact hR; done)
    | (exact rfl; done)
    | (simp_all; done)
    | fail)
theorem spare_i_c (l : List Plc) (ms : List Int) (av : List Int) (hl : l.length ≤ 1048576) (hm : ms.length ≤ 12) (hv : av.length ≤ 1048576) : Fn Go.Proofs.Tryz.prog 42 [.c (.s false 3 (l.map ePlc)), .c (.s false 1 (ms.map eInt)), .c (.s false 1 (av.map eInt))] [.c .d, .c .d, .c .d] [.c (.v (vi (spare l ms av)))] := by
  refine E.Fn.ev (n := 79) mdL false mix Go.Proofs.Tryz.func42 rfl (by simp [Go.Proofs.Tryz.f42]) Go.Proofs.Tryz.ntmps42 (by simp) (by kernel_rfl) (rs := [.tmp 6]) (tys := [3]) rfl rfl (by simp [finOK, A.ts, OWN, ownE, ownT]) (by simp [resOK, A.ts, OWN, ownE, ownT, DE]) ?_
  simp only [go_sem]
  repeat' (first
    | simp only [IJS]
    | (refine E.CALL.use (areSrv_i _ ?_) ?_ <;> (try simp only [go_sem]))
    | (refine E.CALL.use (racks_i _ _ ?_ ?_) ?_ <;> (try simp only [go_sem]))
    | (refine E.CALL.use (hasRoom_i _ _ ?_) ?_ <;> (try simp only [go_sem]))
    | (refine E.CALL.use (has_i _ _ ?_) ?_ <;> (try simp only [go_sem]))
    | (refine E.GB.use (fun h => ?_) (fun h => ?_) <;> (simp only [go_sem, h]) <;> (try simp only [HFS] at h))
    | exact E.INDEP.mk2 (by kernel_rfl)
    | exact E.RK.mk (by kernel_rfl)
    | (refine E.IX_map ?_ (fun hx => ?_); rotate_left; simp only [go_sem])
    | (refine E.loopR (ι := Nat × Int) 6 rfl (fun ⟨i, b⟩ => [(.s 19, .v (.c (.v (vi i)))), (.s 7, .v (.c (.v (vi b))))]) [0, 1, 2, 6, 8, 78] [] [] (fun ⟨i, b⟩ => 5 - i) (fun ⟨i, b⟩ => i ≤ 5 ∧ spareGo l ms av (racksOf l ms) (([0, 1, 2, 3, 4] : List Int).drop i) b = spare l ms av ∧ -1 ≤ b ∧ b < i) mix (by kernel_rfl) (0, -1) ?_ ?_ (fun ⟨i, b⟩ ⟨hi, hR, hb, hb2⟩ => ?_); all_goals (try simp (maxSteps := 900000) only [go_sem]); all_goals (try dsimp only at hi hR hb hb2))
    | (refine E.NEXT.use [] (i + 1, (i : Int)) ?_ ?_ ?_; rotate_left 2; focus (simp (maxSteps := 900000) only [go_sem]; (repeat' (first | with_reducible rfl | exact E.RK.mk (by kernel_rfl) | apply And.intro | (push_cast; with_reducible rfl) | (refine E.int_c ?_; omega) | (simp only [go_sem]; done) | (rw [List.map_append]; rfl) | (simp; done) | (simp only [*]; done) | fail)); done))
    | (refine E.NEXT.use [] (i + 1, b) ?_ ?_ ?_; rotate_left 2; focus (simp (maxSteps := 900000) only [go_sem]; (repeat' (first | with_reducible rfl | exact E.RK.mk (by kernel_rfl) | apply And.intro | (push_cast; with_reducible rfl) | (refine E.int_c ?_; omega) | (simp only [go_sem]; done) | (rw [List.map_append]; rfl) | (simp; done) | (simp only [*]; done) | fail)); done))
    | apply And.intro
    | omega
    | (have q := racks_len l ms; omega; done)
    | (have q := hasRoom_of (l := l) (id := i) (by assumption); omega; done)
    | (exact spare_s (by omega) hR (takes_y1 (by assumption) (by assumption) (by assumption) (by omega)); done)
    | (exact spare_s (by omega) hR (takes_y2 (by assumption) (by assumption) (by assumption) (by first | exact better_t1 (by assumption) (by assumption) | exact better_t2a (by assumption) (by first | assumption | (symm; assumption)) (by assumption) | exact better_t2b (by assumption) (by first | assumption | (symm; assumption)) (by assumption) | exact better_f1 (by assumption) (by assumption) | exact better_f2a (by assumption) (by first | assumption | (symm; assumption)) (by first | assumption | omega) | exact better_f2b (by assumption) (by first | assumption | (symm; assumption)) (by first | assumption | omega))); done)
    | (exact spare_n (by omega) hR (takes_n1 (by assumption)); done)
    | (exact spare_n (by omega) hR (takes_n2 (by assumption)); done)
    | (exact spare_n (by omega) hR (takes_n3 (by assumption)); done)
    | (exact spare_n (by omega) hR (takes_n4 (by omega) (by first | exact better_t1 (by assumption) (by assumption) | exact better_t2a (by assumption) (by first | assumption | (symm; assumption)) (by assumption) | exact better_t2b (by assumption) (by first | assumption | (symm; assumption)) (by assumption) | exact better_f1 (by assumption) (by assumption) | exact better_f2a (by assumption) (by first | assumption | (symm; assumption)) (by first | assumption | omega) | exact better_f2b (by assumption) (by first | assumption | (symm; assumption)) (by first | assumption | omega))); done)
    | (exact spare_e (by omega) hR; done)
    | (exact (spare_y (by assumption)).symm; done)
    | (exact (spare_no (by assumption)).symm; done)
    | (exact absurd (Eq.symm (by assumption : _ = true)) (by assumption : ¬ true = _); done)
    | fail)
theorem allSrv_i  : Fn Go.Proofs.Tryz.prog 44 [] [] [.c (.s true 1 ((five).map eInt))] := by
  refine E.Fn.ev (n := 13) mdL false mix Go.Proofs.Tryz.func44 rfl (by simp [Go.Proofs.Tryz.f44]) Go.Proofs.Tryz.ntmps44 (by simp) (by kernel_rfl) (rs := [.tmp 0]) (tys := [23]) rfl rfl (by simp [finOK, A.ts, OWN, ownE, ownT]) (by simp [resOK, A.ts, OWN, ownE, ownT, DE]) ?_
  simp only [go_sem]
  repeat' (first
    | simp only [IJS]
    | (refine E.GB.use (fun h => ?_) (fun h => ?_) <;> (simp only [go_sem, h]) <;> (try simp only [HFS] at h))
    | exact E.RK.mk (by kernel_rfl)
    | (refine E.loopR (ι := Nat × List Int) 3 rfl (fun ⟨i, out⟩ => [(.s 4, .v (.c (.v (vi i)))), (.s 1, .v (.c (.r (3, 0) 0 [] 0 (out).length))), (.k (3, 0), .e ⟨0, 1, (out).map eInt⟩)]) [0, 12] [(3, 0)] [] (fun ⟨i, out⟩ => 5 - i) (fun ⟨i, out⟩ => i ≤ 5 ∧ out.length ≤ i ∧ out ++ ([0, 1, 2, 3, 4] : List Int).drop i = [0, 1, 2, 3, 4]) mix (by kernel_rfl) (0, []) ?_ ?_ (fun ⟨i, out⟩ ⟨hi, ho, hR⟩ => ?_); all_goals (try simp (maxSteps := 900000) only [go_sem]); all_goals (try dsimp only at hi ho hR))
    | (refine E.NEXT.use [((3, 0), (10, 0))] (i + 1, out ++ [(i : Int)]) ?_ ?_ ?_; rotate_left 2; focus (simp (maxSteps := 900000) only [go_sem]; (repeat' (first | with_reducible rfl | exact E.RK.mk (by kernel_rfl) | apply And.intro | (push_cast; with_reducible rfl) | (refine E.int_c ?_; omega) | (simp only [go_sem]; done) | (rw [List.map_append]; rfl) | (simp; done) | (simp only [*]; done) | fail)); done))
    | apply And.intro
    | omega
    | (simp only [List.length_take, List.length_drop, List.length_append, List.length_set, List.length_cons, List.length_nil]; omega)
    | refine congrArg (List.map _) ?_
    | (rw [five_drop (by omega)] at hR; simpa using hR; done)
    | ((rw [List.drop_of_length_le (by simp; omega), List.append_nil] at hR; exact hR); done)
    | fail)
end Go.Abs

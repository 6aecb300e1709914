/- Contracts of functions of the program, over the abstract machine, and facts for them. No condition. -/
import Derived.Test.YtlpbeejmefhpeaaGreatFacts
import Derived.Test.YtlpbeejmefhpeaaGreatPure25
import Derived.Test.YtlpbeejmefhpeaaGreatQ3
import Derived.Test.YtlpbeejmefhpeaaGreatQ4
import Derived.Test.YtlpbeejmefhpeaaGreatQ8
set_option linter.unusedVariables false
set_option linter.unusedSimpArgs false
set_option linter.unnecessarySimpa false
set_option linter.constructorNameAsVariable false
set_option maxHeartbeats 4000000
set_option maxRecDepth 100000
namespace Go.Abs
open Go
attribute [local go_sem ↓] E.argsA_h E.wq_ret E.wq_req E.wq_bad E.wq_call E.wq_get E.wq_getO E.wq_getOs E.wq_getPs E.wq_fresh E.wq_anyNil E.wq_getR0 E.wq_getR E.wq_ixM E.wq_n E.wq_g E.wq_gn E.ev_skip E.ev_region E.ev_draw E.ev_seq E.ev_cond E.ev_block E.ev_exit E.ev_ret E.sq_n E.sq_e E.sq_r E.bl_n E.bl_e E.bl_r E.lp_n E.lp_e E.lp_r E.fk_n E.fk_r E.q_move E.q_assign E.q_pick E.q_bin E.q_binw E.q_un E.q_alloc E.q_box E.q_build E.q_buildS E.q_makeS E.q_load E.q_store E.q_nilCheck E.q_slice E.q_fieldAddr E.q_field E.q_indexAddr E.q_extract E.q_makeFunc E.q_call E.q_callT E.q_len E.q_append E.q_min E.q_max E.q_convert E.q_cap E.q_clear appendIM appendZM E.b_add E.b_sub E.b_mul E.b_eql E.b_neq E.b_lss E.b_leq E.b_gtr E.b_geq E.GO_tmp E.GO_int E.GO_bool E.GO_str E.GO_nil E.GO_func E.GOs_nil E.GOs_cons E.GPs_nil E.GPs_cons E.RW_nil E.RW_cons E.dstAt_0 E.dstAt_s E.keepL_nil E.keepL_s E.keepL_k E.rmN_nil E.rmN_cons E.memN_nil E.memN_cons E.memK_nil E.memK_cons E.ovl_nil E.ovl_kk E.ovl_sk E.ovl_ks E.ovl_ss ofL_s ofL_sk ofL_ks ofL_k ofL_nil E.CO_tmp E.CO_bool
attribute [local go_sem] E.RM_nil E.RM_cons E.kd_k E.sbr_eq E.s3_nil E.s3_s E.s3_k E.vr_c E.vr_a E.vr_p E.vr_q E.vr_t E.vr_f E.vr_u E.cr_r E.cr_v E.cr_b E.cr_n E.cr_u E.crs_nil E.crs_cons E.renK_nil E.renK_cons keysVs V.keys C.keys keysCs E.RG_nil E.RG_cons E.GV_v E.GB_true E.GB_false E.GX_b E.GG_t E.GG_f E.GG_u E.GU_some E.IX_0 E.IX_s E.CX_s E.FR_none E.EN_e E.GVB_b E.b_boolM E.b_nilM E.b_strM E.b_aggM
attribute [local go_sem] List.cons_append List.nil_append List.append_nil List.length_cons List.length_nil List.length_map List.length_append callM E.argsH_nil E.argsH_cons E.argH_c E.argH_a E.argH_f E.cellsH_nil E.cellsH_cons E.cellH_v E.cellH_b E.cellH_n E.cellH_nt E.cellH_u E.cellH_rt E.cellH_rf capsA capA callable backs backT resVs resV resC tupV lenV intV boolV getE getO entryL entryKs A.ts entryV entryC entryCs entryCap List.map_cons List.map_nil E.cut_n E.cut_r E.cutM plainL A.lastOK T.lastOK Bool.false_or A.capOK szEs szE szT SZ whole toB toC List.drop_zero List.take_zero List.take_succ_cons List.drop_succ_cons resultsM resultM outM outM1 convs conv finAs finA finT finTs Int.toNat_natCast A.plain T.plain List.isEmpty_nil List.isEmpty_cons Bool.or_true Bool.true_or Bool.and_self List.getElem?_cons_zero List.getElem?_cons_succ Option.bind_some Option.bind_none Option.bind Nat.zero_add Nat.add_zero OWN BOR ONE SCAL DE ETA E.take_rest Int.toNat_zero E.take_map E.drop_map E.take_len1 List.take_length E.app_map Int.natCast_zero Int.sub_zero Int.toNat_sub partCells V.cells convsL appendM srcM E.scalEs_nil E.scalEs_cons E.oneEs_nil E.oneEs_cons List.all_cons List.all_nil T.one Bool.and_true gone ownEs ownE ownT borEs borE borT setRow splice List.set_cons_zero List.set_cons_succ optI getOpt sliceM ptrTo app_ofL T.isV Value.oneCell' fillC zeroC spliceC allV eqVs eqV minV maxV setAt setCell holed List.dropLast List.getLast?_singleton Option.getD_some Option.isSome_some Option.isSome_none Bool.and_false Bool.true_and Bool.false_and Option.map_some Option.map_none false_or true_or or_true rowAt cellAt E.constV_nil E.constV_int E.constV_bool E.constV_str E.setCell_set E.setCell_len setRow setAt List.dropLast_cons_cons List.dropLast_singleton List.getLast?_cons_cons
attribute [local go_sem_proc ↓] reduceIte
attribute [local go_sem_proc] Nat.reduceEqDiff reduceCtorEq Nat.reduceAdd Nat.reduceMul
attribute [local irreducible] E.argsH E.argH E.cellsH E.cellH E.GV E.GB E.GX E.GG E.GU E.IX E.CX E.RW E.FR E.EN E.CALL E.GO E.GOs E.GPs E.GVB E.KD E.RM E.RG E.CO E.WQ E.EV E.SQ E.BL E.LP E.FK E.S3 E.RK E.NEXT E.NQ E.INDEP
section
attribute [local go_sem] mdG_eq mdM toNat_pred setI List.length_set
theorem idxF_I0  (l : List Int) (p : Int → Bool) (f : Nat) (hl : l.length ≤ 1048576) (hp : ∀ x ∈ l, Fn Go.Proofs.Tryz.prog f [.c (.v (vi x))] [.c .d] [.c (.v (.bool (p x)))]) : Fn Go.Proofs.Tryz.prog 180 [.c (.s false 1 (l.map eInt)), .f f []] [.c .d, .f f []] [.c (.v (vi (idxF p 0 l)))] := by
  refine E.Fn.ev (n := 19) mdG false mix Go.Proofs.Tryz.func180 rfl (by simp [Go.Proofs.Tryz.f180]) Go.Proofs.Tryz.ntmps180 (by simp) (by kernel_rfl) (rs := [.tmp 4]) (tys := [3]) rfl rfl (by simp [finOK, A.ts, OWN, ownE, ownT]) (by simp [resOK, A.ts, OWN, ownE, ownT, DE]) ?_
  simp only [go_sem]
  repeat' (first
    | simp only [IJS]
    | (refine E.CALL.use (hp _ ?_) ?_ <;> (try simp only [go_sem]))
    | (refine E.GB.use (fun h => ?_) (fun h => ?_) <;> (simp only [go_sem, h]) <;> (try simp only [HFS] at h))
    | exact E.RK.mk (by kernel_rfl)
    | (refine E.IX_map ?_ (fun hx => ?_); rotate_left; simp only [go_sem])
    | (refine E.loopR (ι := Nat) 2 rfl (fun i => [(.s 8, .v (.c (.v (vi i))))]) [0, 1, 7] [] [] (fun i => l.length - i) (fun i => i ≤ l.length ∧ idxF p i (l.drop i) = idxF p 0 l) mix (by kernel_rfl) 0 ?_ ?_ (fun i ⟨hi, hR⟩ => ?_); all_goals (try simp (maxSteps := 900000) only [go_sem]); all_goals (try dsimp only at hi hR))
    | (refine E.NEXT.use [] (i + 1) ?_ ?_ ?_; rotate_left 2; focus (simp (maxSteps := 900000) only [go_sem]; (repeat' (first | with_reducible rfl | exact E.RK.mk (by kernel_rfl) | apply And.intro | (push_cast; with_reducible rfl) | (refine E.int_c ?_; omega) | (simp only [go_sem]; done) | (rw [List.map_append]; rfl) | (simp; done) | (simp only [*]; done) | fail)); done))
    | apply And.intro
    | omega
    | (rw [drop_at (l := l) (i := i) (by omega)] at hR; simp_all [idxF]; done)
    | (rw [E.drop_end (l := l) (i := i) (by omega)] at hR; simp only [idxF] at hR; simp [← hR]; done)
    | (exact E.at_mem (by omega); done)
    | fail)
theorem anyF_I0  (l : List Int) (p : Int → Bool) (f : Nat) (hl : l.length ≤ 1048576) (hp : ∀ x ∈ l, Fn Go.Proofs.Tryz.prog f [.c (.v (vi x))] [.c .d] [.c (.v (.bool (p x)))]) : Fn Go.Proofs.Tryz.prog 161 [.c (.s false 1 (l.map eInt)), .f f []] [.c .d, .f f []] [.c (.v (.bool (l.any p)))] := by
  refine E.Fn.ev (n := 9) mdG false mix Go.Proofs.Tryz.func161 rfl (by simp [Go.Proofs.Tryz.f161]) Go.Proofs.Tryz.ntmps161 (by simp) (by kernel_rfl) (rs := [.tmp 4]) (tys := [4]) rfl rfl (by simp [finOK, A.ts, OWN, ownE, ownT]) (by simp [resOK, A.ts, OWN, ownE, ownT, DE]) ?_
  simp only [go_sem]
  repeat' (first
    | simp only [IJS]
    | (refine E.CALL.use (idxF_I0 l p f hl hp) ?_ <;> (try simp only [go_sem]))
    | (rw [← idxF_any p l 0]; done)
    | fail)
theorem idxF_I1  (l : List Int) (p : Int → Bool) (f : Nat) (q1 : Nat) (e1 : List (List T)) (hl : l.length ≤ 1048576) (hp : ∀ x ∈ l, Fn Go.Proofs.Tryz.prog f [.c (.v (vi x)), .q q1 e1 0 0] [.c .d, .q q1 e1 0 0] [.c (.v (.bool (p x)))]) : Fn Go.Proofs.Tryz.prog 180 [.c (.s false 1 (l.map eInt)), .f f [.q q1 e1 0 0]] [.c .d, .f f [.q q1 e1 0 0]] [.c (.v (vi (idxF p 0 l)))] := by
  refine E.Fn.ev (n := 19) mdG false mix Go.Proofs.Tryz.func180 rfl (by simp [Go.Proofs.Tryz.f180]) Go.Proofs.Tryz.ntmps180 (by simp) (by kernel_rfl) (rs := [.tmp 4]) (tys := [3]) rfl rfl (by simp [finOK, A.ts, OWN, ownE, ownT]) (by simp [resOK, A.ts, OWN, ownE, ownT, DE]) ?_
  simp only [go_sem]
  repeat' (first
    | simp only [IJS]
    | (refine E.CALL.use (hp _ ?_) ?_ <;> (try simp only [go_sem]))
    | (refine E.GB.use (fun h => ?_) (fun h => ?_) <;> (simp only [go_sem, h]) <;> (try simp only [HFS] at h))
    | exact E.RK.mk (by kernel_rfl)
    | (refine E.IX_map ?_ (fun hx => ?_); rotate_left; simp only [go_sem])
    | (refine E.loopR (ι := Nat) 2 rfl (fun i => [(.s 8, .v (.c (.v (vi i))))]) [0, 1, 7] [] [] (fun i => l.length - i) (fun i => i ≤ l.length ∧ idxF p i (l.drop i) = idxF p 0 l) mix (by kernel_rfl) 0 ?_ ?_ (fun i ⟨hi, hR⟩ => ?_); all_goals (try simp (maxSteps := 900000) only [go_sem]); all_goals (try dsimp only at hi hR))
    | (refine E.NEXT.use [] (i + 1) ?_ ?_ ?_; rotate_left 2; focus (simp (maxSteps := 900000) only [go_sem]; (repeat' (first | with_reducible rfl | exact E.RK.mk (by kernel_rfl) | apply And.intro | (push_cast; with_reducible rfl) | (refine E.int_c ?_; omega) | (simp only [go_sem]; done) | (rw [List.map_append]; rfl) | (simp; done) | (simp only [*]; done) | fail)); done))
    | apply And.intro
    | omega
    | (rw [drop_at (l := l) (i := i) (by omega)] at hR; simp_all [idxF]; done)
    | (rw [E.drop_end (l := l) (i := i) (by omega)] at hR; simp only [idxF] at hR; simp [← hR]; done)
    | (exact E.at_mem (by omega); done)
    | fail)
theorem idxF_E2  (l : List LEnt) (p : LEnt → Bool) (f : Nat) (q1 : Nat) (e1 : List (List T)) (q2 : Nat) (e2 : List (List T)) (hl : l.length ≤ 1048576) (hp : ∀ x ∈ l, Fn Go.Proofs.Tryz.prog f [.a (eLEnt x), .q q1 e1 0 0, .q q2 e2 0 0] [.a [.d, .d, .d, .d, .d, .d, .d], .q q1 e1 0 0, .q q2 e2 0 0] [.c (.v (.bool (p x)))]) : Fn Go.Proofs.Tryz.prog 121 [.c (.s false 7 (l.map eLEnt)), .f f [.q q1 e1 0 0, .q q2 e2 0 0]] [.c .d, .f f [.q q1 e1 0 0, .q q2 e2 0 0]] [.c (.v (vi (idxF p 0 l)))] := by
  refine E.Fn.ev (n := 19) mdG false mix Go.Proofs.Tryz.func121 rfl (by simp [Go.Proofs.Tryz.f121]) Go.Proofs.Tryz.ntmps121 (by simp) (by kernel_rfl) (rs := [.tmp 4]) (tys := [3]) rfl rfl (by simp [finOK, A.ts, OWN, ownE, ownT]) (by simp [resOK, A.ts, OWN, ownE, ownT, DE]) ?_
  simp only [go_sem]
  repeat' (first
    | simp only [IJS]
    | (refine E.CALL.use (hp _ ?_) ?_ <;> (try simp only [go_sem]))
    | (refine E.GB.use (fun h => ?_) (fun h => ?_) <;> (simp only [go_sem, h]) <;> (try simp only [HFS] at h))
    | exact E.RK.mk (by kernel_rfl)
    | (refine E.IX_map ?_ (fun hx => ?_); rotate_left; simp only [go_sem])
    | (refine E.loopR (ι := Nat) 2 rfl (fun i => [(.s 8, .v (.c (.v (vi i))))]) [0, 1, 7] [] [] (fun i => l.length - i) (fun i => i ≤ l.length ∧ idxF p i (l.drop i) = idxF p 0 l) mix (by kernel_rfl) 0 ?_ ?_ (fun i ⟨hi, hR⟩ => ?_); all_goals (try simp (maxSteps := 900000) only [go_sem]); all_goals (try dsimp only at hi hR))
    | (refine E.NEXT.use [] (i + 1) ?_ ?_ ?_; rotate_left 2; focus (simp (maxSteps := 900000) only [go_sem]; (repeat' (first | with_reducible rfl | exact E.RK.mk (by kernel_rfl) | apply And.intro | (push_cast; with_reducible rfl) | (refine E.int_c ?_; omega) | (simp only [go_sem]; done) | (rw [List.map_append]; rfl) | (simp; done) | (simp only [*]; done) | fail)); done))
    | apply And.intro
    | omega
    | (rw [drop_at (l := l) (i := i) (by omega)] at hR; simp_all [idxF]; done)
    | (rw [E.drop_end (l := l) (i := i) (by omega)] at hR; simp only [idxF] at hR; simp [← hR]; done)
    | (exact E.at_mem (by omega); done)
    | fail)
theorem idxF_P0  (l : List Plc) (p : Plc → Bool) (f : Nat) (hl : l.length ≤ 1048576) (hp : ∀ x ∈ l, Fn Go.Proofs.Tryz.prog f [.a (ePlc x)] [.a [.d, .d, .d]] [.c (.v (.bool (p x)))]) : Fn Go.Proofs.Tryz.prog 190 [.c (.s false 3 (l.map ePlc)), .f f []] [.c .d, .f f []] [.c (.v (vi (idxF p 0 l)))] := by
  refine E.Fn.ev (n := 19) mdG false mix Go.Proofs.Tryz.func190 rfl (by simp [Go.Proofs.Tryz.f190]) Go.Proofs.Tryz.ntmps190 (by simp) (by kernel_rfl) (rs := [.tmp 4]) (tys := [3]) rfl rfl (by simp [finOK, A.ts, OWN, ownE, ownT]) (by simp [resOK, A.ts, OWN, ownE, ownT, DE]) ?_
  simp only [go_sem]
  repeat' (first
    | simp only [IJS]
    | (refine E.CALL.use (hp _ ?_) ?_ <;> (try simp only [go_sem]))
    | (refine E.GB.use (fun h => ?_) (fun h => ?_) <;> (simp only [go_sem, h]) <;> (try simp only [HFS] at h))
    | exact E.RK.mk (by kernel_rfl)
    | (refine E.IX_map ?_ (fun hx => ?_); rotate_left; simp only [go_sem])
    | (refine E.loopR (ι := Nat) 2 rfl (fun i => [(.s 8, .v (.c (.v (vi i))))]) [0, 1, 7] [] [] (fun i => l.length - i) (fun i => i ≤ l.length ∧ idxF p i (l.drop i) = idxF p 0 l) mix (by kernel_rfl) 0 ?_ ?_ (fun i ⟨hi, hR⟩ => ?_); all_goals (try simp (maxSteps := 900000) only [go_sem]); all_goals (try dsimp only at hi hR))
    | (refine E.NEXT.use [] (i + 1) ?_ ?_ ?_; rotate_left 2; focus (simp (maxSteps := 900000) only [go_sem]; (repeat' (first | with_reducible rfl | exact E.RK.mk (by kernel_rfl) | apply And.intro | (push_cast; with_reducible rfl) | (refine E.int_c ?_; omega) | (simp only [go_sem]; done) | (rw [List.map_append]; rfl) | (simp; done) | (simp only [*]; done) | fail)); done))
    | apply And.intro
    | omega
    | (rw [drop_at (l := l) (i := i) (by omega)] at hR; simp_all [idxF]; done)
    | (rw [E.drop_end (l := l) (i := i) (by omega)] at hR; simp only [idxF] at hR; simp [← hR]; done)
    | (exact E.at_mem (by omega); done)
    | fail)
theorem anyF_P0  (l : List Plc) (p : Plc → Bool) (f : Nat) (hl : l.length ≤ 1048576) (hp : ∀ x ∈ l, Fn Go.Proofs.Tryz.prog f [.a (ePlc x)] [.a [.d, .d, .d]] [.c (.v (.bool (p x)))]) : Fn Go.Proofs.Tryz.prog 177 [.c (.s false 3 (l.map ePlc)), .f f []] [.c .d, .f f []] [.c (.v (.bool (l.any p)))] := by
  refine E.Fn.ev (n := 9) mdG false mix Go.Proofs.Tryz.func177 rfl (by simp [Go.Proofs.Tryz.f177]) Go.Proofs.Tryz.ntmps177 (by simp) (by kernel_rfl) (rs := [.tmp 4]) (tys := [4]) rfl rfl (by simp [finOK, A.ts, OWN, ownE, ownT]) (by simp [resOK, A.ts, OWN, ownE, ownT, DE]) ?_
  simp only [go_sem]
  repeat' (first
    | simp only [IJS]
    | (refine E.CALL.use (idxF_P0 l p f hl hp) ?_ <;> (try simp only [go_sem]))
    | (rw [← idxF_any p l 0]; done)
    | fail)
end
section
attribute [local go_sem] mdG_eq mdM toNat_pred setI List.length_set
theorem compact_c (l : List Int) (hl : l.length ≤ 1048576) : Fn Go.Proofs.Tryz.prog 195 [.c (.s true 1 (l.map eInt))] [.c .d] [.c (.s true 1 ((comp l).map eInt))] := by
  refine E.Fn.evC (n := 61) mdG false mix Go.Proofs.Tryz.func195 rfl (by simp [Go.Proofs.Tryz.f195]) Go.Proofs.Tryz.ntmps195 (by simp) (by kernel_rfl) (t := 2) (ty := 23) (sz := 1) (r := (comp l).map eInt) rfl rfl ki23 rfl (by simp [OWN]) ?_
  simp only [go_sem]
  repeat' (first
    | simp only [IJS]
    | (refine E.GB.use (fun h => ?_) (fun h => ?_) <;> (simp only [go_sem, h]) <;> (try simp only [HFS] at h))
    | exact E.INDEP.mk2 (by kernel_rfl)
    | exact E.RK.mk (by kernel_rfl)
    | (refine E.IX_map ?_ (fun hx => ?_); rotate_left; simp only [go_sem])
    | (refine E.loopR (ι := Nat) 4 rfl (fun i => [(.s 3, .v (.c (.v (vi i))))]) [0, 60] [] [] (fun i => l.length - i) (fun i => 1 ≤ i ∧ i ≤ l.length ∧ ∀ k, 0 < k → k < i → at' l k ≠ at' l (k - 1)) mix (by kernel_rfl) 1 ?_ ?_ (fun i ⟨h1i, hi, hR⟩ => ?_); all_goals (try simp (maxSteps := 900000) only [go_sem]); all_goals (try dsimp only at h1i hi hR))
    | (refine E.NEXT.use [] (i + 1) ?_ ?_ ?_; rotate_left 2; focus (simp (maxSteps := 900000) only [go_sem]; (repeat' (first | with_reducible rfl | exact E.RK.mk (by kernel_rfl) | apply And.intro | (push_cast; with_reducible rfl) | (refine E.int_c ?_; omega) | (simp only [go_sem]; done) | (rw [List.map_append]; rfl) | (simp; done) | (simp only [*]; done) | (rw [set_app' (by omega)]; done) | (refine E.int_c ?_; simp only [List.length_append, List.length_cons, List.length_nil]; omega; done) | fail)); done))
    | (refine E.loopR (ι := List Int × Nat) 9 rfl (fun ⟨c, j⟩ => [(.s 3, .v (.c (.v (vi c.length)))), (.s 5, .v (.c (.v (vi j)))), (.k (0, 0), .e ⟨0, 1, (c ++ l.drop c.length).map eInt⟩)]) [0, 2, 4, 10, 11, 12, 13, 14, 15, 16, 17, 18, 19, 20, 21, 22, 23, 24, 25, 26, 27, 28, 54, 55, 56, 57, 58, 59, 60] [(0, 0)] [] (fun ⟨c, j⟩ => l.length - (i + j)) (fun ⟨c, j⟩ => c.length < i + j ∧ 1 ≤ j ∧ i + j ≤ l.length ∧ c ++ compGo (some (at' l (i + j - 1))) (l.drop (i + j)) = comp l) mix (by kernel_rfl) (l.take i, 1) ?_ ?_ (fun ⟨c, j⟩ ⟨hc, h1j, hj, hQ⟩ => ?_); all_goals (try simp (maxSteps := 900000) only [go_sem]); all_goals (try dsimp only at hc h1j hj hQ))
    | (refine E.NEXT.use [] (c, j + 1) ?_ ?_ ?_; rotate_left 2; focus (simp (maxSteps := 900000) only [go_sem]; (repeat' (first | with_reducible rfl | exact E.RK.mk (by kernel_rfl) | apply And.intro | (push_cast; with_reducible rfl) | (refine E.int_c ?_; omega) | (simp only [go_sem]; done) | (rw [List.map_append]; rfl) | (simp; done) | (simp only [*]; done) | (rw [set_app' (by omega)]; done) | (refine E.int_c ?_; simp only [List.length_append, List.length_cons, List.length_nil]; omega; done) | fail)); done))
    | (refine E.NEXT.use [] (c ++ [at' (c ++ l.drop c.length) (i + j)], j + 1) ?_ ?_ ?_; rotate_left 2; focus (simp (maxSteps := 900000) only [go_sem]; (repeat' (first | with_reducible rfl | exact E.RK.mk (by kernel_rfl) | apply And.intro | (push_cast; with_reducible rfl) | (refine E.int_c ?_; omega) | (simp only [go_sem]; done) | (rw [List.map_append]; rfl) | (simp; done) | (simp only [*]; done) | (rw [set_app' (by omega)]; done) | (refine E.int_c ?_; simp only [List.length_append, List.length_cons, List.length_nil]; omega; done) | fail)); done))
    | apply And.intro
    | omega
    | (simp only [List.length_take, List.length_drop, List.length_append, List.length_set, List.length_cons, List.length_nil]; omega)
    | (push_cast; with_reducible rfl)
    | refine congrArg (List.map _) ?_
    | (refine (comp_none fun k h1 h2 => ?_).symm; omega; done)
    | (rw [comp, comp_id i l none (by omega) (.inl rfl) hR (by omega), drop_at (i := i) (by omega)]; simp [compGo, *]; done)
    | (rw [List.length_take, Nat.min_eq_left (by omega), List.take_append_drop]; done)
    | (rw [at_app (by omega), at_app (by omega), show i + (j - 1) = i + j - 1 by omega] at h; rw [← hQ, drop_at (i := i + j) (by omega)]; simp [compGo, h, ← Nat.add_assoc]; done)
    | (rw [at_app (by omega), at_app (by omega), show i + (j - 1) = i + j - 1 by omega] at h; (try dsimp only); rw [at_app (by omega), ← hQ, drop_at (i := i + j) (by omega)]; simp [compGo, Ne.symm h, ← Nat.add_assoc]; done)
    | (rw [take_app2]; rw [E.drop_end (by omega)] at hQ; simp only [compGo, List.append_nil] at hQ; rw [hQ]; done)
    | (intro k h1 h2; rcases Nat.lt_or_eq_of_le (Nat.le_of_lt_succ h2) with h3 | h3; exact hR k h1 h3; subst h3; assumption; done)
    | (refine (comp_none fun k h1 h2 => hR k h1 (by omega)).symm; done)
    | (simp; omega; done)
    | fail)
theorem delF_I1  (l : List Int) (p : Int → Bool) (f : Nat) (q1 : Nat) (e1 : List (List T)) (hl : l.length ≤ 1048576) (hp : ∀ x ∈ l, Fn Go.Proofs.Tryz.prog f [.c (.v (vi x)), .q q1 e1 0 0] [.c .d, .q q1 e1 0 0] [.c (.v (.bool (p x)))]) : Fn Go.Proofs.Tryz.prog 197 [.c (.s true 1 (l.map eInt)), .f f [.q q1 e1 0 0]] [.c .d, .f f [.q q1 e1 0 0]] [.c (.s true 1 ((l.filter fun x => !p x).map eInt))] := by
  refine E.Fn.evC (n := 42) mdG false mix Go.Proofs.Tryz.func197 rfl (by simp [Go.Proofs.Tryz.f197]) Go.Proofs.Tryz.ntmps197 (by simp) (by kernel_rfl) (t := 4) (ty := 23) (sz := 1) (r := (l.filter fun x => !p x).map eInt) rfl rfl ki23 rfl (by simp [OWN]) ?_
  simp only [go_sem]
  repeat' (first
    | simp only [IJS]
    | (refine E.CALL.use (hp _ ?_) ?_ <;> (try simp only [go_sem]))
    | (refine E.CALL.use (idxF_I1 l p f q1 e1 hl hp) ?_ <;> (try simp only [go_sem]))
    | (refine E.GB.use (fun h => ?_) (fun h => ?_) <;> (simp only [go_sem, h]) <;> (try simp only [HFS] at h))
    | exact E.RK.mk (by kernel_rfl)
    | (refine E.IX_map ?_ (fun hx => ?_); rotate_left; simp only [go_sem])
    | (refine E.loopR (ι := List Int × Nat) 5 rfl (fun ⟨c, j⟩ => [(.s 5, .v (.c (.v (vi c.length)))), (.s 6, .v (.c (.v (vi j)))), (.k (0, 0), .e ⟨0, 1, (c ++ l.drop c.length).map eInt⟩)]) [0, 1, 4, 36, 37, 38, 39, 40, 41] [(0, 0)] [] (fun ⟨c, j⟩ => l.length - j) (fun ⟨c, j⟩ => c.length < j ∧ j ≤ l.length ∧ c ++ (l.drop j).filter (fun x => !p x) = l.filter fun x => !p x) mix (by kernel_rfl) (l.take (idxF p 0 l).toNat, (idxF p 0 l).toNat + 1) ?_ ?_ (fun ⟨c, j⟩ ⟨hc, hj, hQ⟩ => ?_); all_goals (try simp (maxSteps := 900000) only [go_sem]); all_goals (try dsimp only at hc hj hQ))
    | (refine E.NEXT.use [] (c, j + 1) ?_ ?_ ?_; rotate_left 2; focus (simp (maxSteps := 900000) only [go_sem]; (repeat' (first | with_reducible rfl | exact E.RK.mk (by kernel_rfl) | apply And.intro | (push_cast; with_reducible rfl) | (refine E.int_c ?_; omega) | (simp only [go_sem]; done) | (rw [List.map_append]; rfl) | (simp; done) | (simp only [*]; done) | (rw [set_app' (by omega)]; done) | (refine E.int_c ?_; simp only [List.length_append, List.length_cons, List.length_nil]; omega; done) | fail)); done))
    | (refine E.NEXT.use [] (c ++ [at' (c ++ l.drop c.length) j], j + 1) ?_ ?_ ?_; rotate_left 2; focus (simp (maxSteps := 900000) only [go_sem]; (repeat' (first | with_reducible rfl | exact E.RK.mk (by kernel_rfl) | apply And.intro | (push_cast; with_reducible rfl) | (refine E.int_c ?_; omega) | (simp only [go_sem]; done) | (rw [List.map_append]; rfl) | (simp; done) | (simp only [*]; done) | (rw [set_app' (by omega)]; done) | (refine E.int_c ?_; simp only [List.length_append, List.length_cons, List.length_nil]; omega; done) | fail)); done))
    | apply And.intro
    | omega
    | (simp only [List.length_take, List.length_drop, List.length_append, List.length_set, List.length_cons, List.length_nil]; omega)
    | refine congrArg (List.map _) ?_
    | (rw [at_app (by omega)]; exact E.at_mem (by omega); done)
    | (rw [idxF_no (by assumption)]; done)
    | (have q := idxF_yes (by assumption); omega; done)
    | (refine E.int_c ?_; have q := idxF_yes (by assumption); omega; done)
    | (exact (idxF_yes (by assumption)).2.2.2; done)
    | (rw [(idxF_yes (by assumption)).2.2.1, List.take_append_drop]; done)
    | ((try dsimp only); rw [at_app (by omega)] at h; rw [← hQ, drop_at (i := j) (by omega)]; simp [h]; done)
    | ((try dsimp only); rw [at_app (by omega)] at h; rw [at_app (by omega), ← hQ, drop_at (i := j) (by omega)]; simp [h]; done)
    | (rw [take_app2]; rw [E.drop_end (by omega)] at hQ; simp only [List.filter_nil, List.append_nil] at hQ; rw [hQ]; done)
    | fail)
end
section
attribute [local go_sem] mdG_eq mdM toNat_pred setI List.length_set
theorem putsGo_len : ∀ (l s : List Int), (l.foldl putI s).length ≤ s.length + l.length
  | [], s => by simp
  | x :: l, s => by have := putsGo_len l (putI s x); have := putI_len s x; simp only [List.foldl_cons, List.length_cons]; omega
theorem puts_len (l : List Int) : (puts l).length ≤ l.length := by have := putsGo_len l []; simpa [puts] using this
theorem without_len (a b : List Int) : (without a b).length ≤ a.length := by
  rw [without_eq]; exact Nat.le_trans (List.length_filter_le _ _) (puts_len a)
theorem asc_c (l : List Int) (hn : l.length ≤ 12) : Fn Go.Proofs.Tryz.prog 184 [.c (.s false 1 (l.map eInt))] [.c .d] [.c (.s true 1 ((puts l).map eInt))] := by
  refine E.Fn.ev (n := 10) mdG false mix Go.Proofs.Tryz.func184 rfl (by simp [Go.Proofs.Tryz.f184]) Go.Proofs.Tryz.ntmps184 (by simp) (by kernel_rfl) (rs := [.tmp 2]) (tys := [23]) rfl rfl (by simp [finOK, A.ts, OWN, ownE, ownT]) (by simp [resOK, A.ts, OWN, ownE, ownT, DE]) ?_
  simp only [go_sem]
  repeat' (first
    | simp only [IJS]
    | (refine E.CALL.use (clone_c _ ?_) ?_ <;> (try simp only [go_sem]))
    | (refine E.CALL.use (sort_c _ ?_) ?_ <;> (try simp only [go_sem]))
    | (refine E.CALL.use (compact_c _ ?_) ?_ <;> (try simp only [go_sem]))
    | apply And.intro
    | omega
    | refine congrArg (List.map _) ?_
    | (rw [srt_len]; done)
    | (rw [srt_len]; omega; done)
    | (rw [comp_srt]; done)
    | fail)
theorem inB_c  (x : Int) (b : List Int) (hb : b.length ≤ 1048576) : Fn Go.Proofs.Tryz.prog 198 [.c (.v (vi x)), .q 1 [[.s false 1 (b.map eInt)]] 0 0] [.c .d, .q 1 [[.s false 1 (b.map eInt)]] 0 0] [.c (.v (.bool (b.contains x)))] := by
  refine E.Fn.ev (n := 7) mdG false mix Go.Proofs.Tryz.func198 rfl (by simp [Go.Proofs.Tryz.f198]) Go.Proofs.Tryz.ntmps198 (by simp) (by kernel_rfl) (rs := [.tmp 3]) (tys := [4]) rfl rfl (by simp [finOK, A.ts, OWN, ownE, ownT]) (by simp [resOK, A.ts, OWN, ownE, ownT, DE]) ?_
  simp only [go_sem]
  repeat' (first
    | simp only [IJS]
    | (refine E.CALL.use (has_i _ _ ?_) ?_ <;> (try simp only [go_sem]))
    | apply And.intro
    | omega
    | fail)
theorem without_i (a : List Int) (b : List Int) (ha : a.length ≤ 12) (hb : b.length ≤ 1048576) : Fn Go.Proofs.Tryz.prog 193 [.c (.s false 1 (a.map eInt)), .c (.s false 1 (b.map eInt))] [.c .d, .c .d] [.c (.s true 1 ((without a b).map eInt))] := by
  refine E.Fn.ev (n := 9) mdG false mix Go.Proofs.Tryz.func193 rfl (by simp [Go.Proofs.Tryz.f193]) Go.Proofs.Tryz.ntmps193 (by simp) (by kernel_rfl) (rs := [.tmp 4]) (tys := [23]) rfl rfl (by simp [finOK, A.ts, OWN, ownE, ownT]) (by simp [resOK, A.ts, OWN, ownE, ownT, DE]) ?_
  simp only [go_sem]
  repeat' (first
    | simp only [IJS]
    | (refine E.CALL.use (delF_I1 (puts a) (fun x => b.contains x) 198 1 [[.s false 1 (b.map eInt)]] ?_ (fun x _ => inB_c x b hb)) ?_ <;> (try simp only [go_sem]))
    | (refine E.CALL.use (asc_c _ ?_) ?_ <;> (try simp only [go_sem]))
    | apply And.intro
    | omega
    | (push_cast; with_reducible rfl)
    | refine congrArg (List.map _) ?_
    | (have := puts_len a; omega; done)
    | (rw [without_eq]; done)
    | fail)
theorem common_i (a : List Int) (b : List Int) (ha : a.length ≤ 12) (hb : b.length ≤ 1048576) : Fn Go.Proofs.Tryz.prog 183 [.c (.s false 1 (a.map eInt)), .c (.s false 1 (b.map eInt))] [.c .d, .c .d] [.c (.s true 1 ((common a b).map eInt))] := by
  refine E.Fn.ev (n := 10) mdG false mix Go.Proofs.Tryz.func183 rfl (by simp [Go.Proofs.Tryz.f183]) Go.Proofs.Tryz.ntmps183 (by simp) (by kernel_rfl) (rs := [.tmp 4]) (tys := [23]) rfl rfl (by simp [finOK, A.ts, OWN, ownE, ownT]) (by simp [resOK, A.ts, OWN, ownE, ownT, DE]) ?_
  simp only [go_sem]
  repeat' (first
    | simp only [IJS]
    | (refine E.CALL.use (without_i _ _ ?_ ?_) ?_ <;> (try simp only [go_sem]))
    | apply And.intro
    | omega
    | refine congrArg (List.map _) ?_
    | (have := without_len a b; omega; done)
    | (rw [common_eq]; done)
    | fail)
end
section
attribute [local go_sem] mdM toNat_pred
theorem copyM_s (m : MLog) (hml : m.confs.length ≤ 1048576) (hm : ∀ c ∈ m.confs, c.reps.length ≤ 1048576 ∧ c.wits.length ≤ 1048576) : Fn Go.Proofs.Tryz.prog 101 [.a (eMLog false m)] [.a [.d, .d]] [.a (eMLog true (m))] := by
  refine E.Fn.ev (n := 29) mdM false mix Go.Proofs.Tryz.func101 rfl (by simp [Go.Proofs.Tryz.f101]) Go.Proofs.Tryz.ntmps101 (by simp) (by kernel_rfl) (rs := [.cell 2 41]) (tys := [41]) rfl rfl (by simp [finOK, A.ts, OWN, ownE, ownT]) (by simp [resOK, A.ts, OWN, ownE, ownT, DE]) ?_
  simp only [go_sem]
  repeat' (first
    | simp only [IJS]
    | (refine E.CALL.use (copyC_s _ ?_ ?_) ?_ <;> (try simp only [go_sem]))
    | (refine E.GB.use (fun h => ?_) (fun h => ?_) <;> (simp only [go_sem, h]) <;> (try simp only [HFS] at h))
    | exact E.RK.mk (by kernel_rfl)
    | (refine E.IX_map ?_ (fun hx => ?_); rotate_left; simp only [go_sem])
    | (refine E.loopR (ι := Nat × Nat) 3 rfl (fun ⟨i, v⟩ => [(.s 4, .v (.c (.v (vi i)))), (.k (3, 0), .e ⟨v, 2, [[.s true 4 ((m.confs.take i).map (eConf true)), .v (vi m.act)]]⟩)]) [1, 2, 3, 28] [(3, 0)] [] (fun ⟨i, v⟩ => m.confs.length - i) (fun ⟨i, v⟩ => i ≤ m.confs.length ∧ v = v) mix (by kernel_rfl) (0, 1) ?_ ?_ (fun ⟨i, v⟩ ⟨hi, hv⟩ => ?_); all_goals (try simp (maxSteps := 900000) only [go_sem]); all_goals (try dsimp only at hi hv))
    | (refine E.NEXT.use [] (i + 1, v + 1) ?_ ?_ ?_; rotate_left 2; focus (simp (maxSteps := 900000) only [go_sem]; (repeat' (first | with_reducible rfl | exact E.RK.mk (by kernel_rfl) | apply And.intro | (push_cast; with_reducible rfl) | (refine E.int_c ?_; omega) | (simp only [go_sem]; done) | (rw [List.map_append]; rfl) | (simp; done) | (simp only [*]; done) | (rw [E.take_at, List.map_append] <;> first | rfl | omega; done) | fail)); done))
    | apply And.intro
    | omega
    | (simp only [List.length_take, List.length_drop, List.length_append, List.length_set, List.length_cons, List.length_nil]; omega)
    | refine congrArg (List.map _) ?_
    | (exact (hm _ (E.at_mem (by omega))).1; done)
    | (exact (hm _ (E.at_mem (by omega))).2; done)
    | (have e : i = m.confs.length := (by omega); subst e; simp; done)
    | fail)
theorem isLease_no {l : Lse} (h : ((l.epoch == 0) && ((l.holder == 0) && (l.til == 0))) = true) : l = noLse := by
  cases l; simp_all [noLse]
theorem isLease_ne {l : Lse} (h : ((l.epoch == 0) && ((l.holder == 0) && (l.til == 0))) = false) : l ≠ noLse := by
  rintro rfl; simp [noLse] at h
theorem isLease_s (l : Lse) : Fn Go.Proofs.Tryz.prog 104 [.a (eLse l)] [.a [.d, .d, .d]] [.c (.v (.bool (isLease l)))] := by
  refine E.Fn.ev (n := 19) mdM false mix Go.Proofs.Tryz.func104 rfl (by simp [Go.Proofs.Tryz.f104]) Go.Proofs.Tryz.ntmps104 (by simp) (by kernel_rfl) (rs := [.tmp 2]) (tys := [4]) rfl rfl (by simp [finOK, A.ts, OWN, ownE, ownT]) (by simp [resOK, A.ts, OWN, ownE, ownT, DE]) ?_
  simp only [go_sem]
  repeat' (first
    | simp only [IJS]
    | (refine E.CALL.use (in_s _ _ _) ?_ <;> (try simp only [go_sem]))
    | (refine E.GB.use (fun h => ?_) (fun h => ?_) <;> (simp only [go_sem, h]) <;> (try simp only [HFS] at h))
    | apply And.intro
    | omega
    | (have q := isLease_no h; subst q; simp [isLease]; done)
    | (have := isLease_ne (by assumption); simp_all [isLease]; done)
    | fail)
theorem isLease_til {l : Lse} (h : isLease l = true) : 0 ≤ l.til ∧ l.til ≤ 1049 ∧ (l.til = 0 → l = noLse) ∧ (l = noLse → l.til = 0) := by
  simp only [isLease, Bool.or_eq_true, beq_iff_eq, Bool.and_eq_true, inR_iff] at h
  rcases h with rfl | h
  · simp [noLse]
  · exact ⟨by omega, by omega, by omega, fun e => by subst e; simp [noLse] at h⟩
theorem copyS_s (s : Srv) (h1 : s.conf.reps.length ≤ 1048576) (h2 : s.conf.wits.length ≤ 1048576) (h3 : s.log.length ≤ 1048576) (h4 : s.learned.length ≤ 1048576) : Fn Go.Proofs.Tryz.prog 100 [.a (eSrv false s)] [.a [.d, .d, .d, .d, .d, .d, .d, .d, .d, .d, .d, .d]] [.a (eSrv true (s))] := by
  refine E.Fn.ev (n := 18) mdM false mix Go.Proofs.Tryz.func100 rfl (by simp [Go.Proofs.Tryz.f100]) Go.Proofs.Tryz.ntmps100 (by simp) (by kernel_rfl) (rs := [.cell 2 76]) (tys := [76]) rfl rfl (by simp [finOK, A.ts, OWN, ownE, ownT]) (by simp [resOK, A.ts, OWN, ownE, ownT, DE]) ?_
  simp only [go_sem]
  repeat' (first
    | simp only [IJS]
    | (refine E.CALL.use (copyC_s _ ?_ ?_) ?_ <;> (try simp only [go_sem]))
    | (refine E.CALL.use (copyL_s _ ?_) ?_ <;> (try simp only [go_sem]))
    | apply And.intro
    | omega
    | fail)
theorem role_cases (c : Conf) (id : Int) : roleOf c id = 0 ∨ roleOf c id = 1 ∨ roleOf c id = 2 ∨ roleOf c id = 3 := by
  unfold roleOf; repeat' split
  all_goals simp
theorem validSrv_s (s : Srv) (id : Int) (h1 : s.conf.reps.length ≤ 1048576) (h2 : s.conf.wits.length ≤ 1048576) (h3 : s.log.length ≤ 1048576) (h4 : s.learned.length ≤ 1048576) : Fn Go.Proofs.Tryz.prog 82 [.a (eSrv false s), .c (.v (vi id))] [.a [.d, .d, .d, .d, .d, .d, .d, .d, .d, .d, .d, .d], .c .d] [.c (.v (.bool (validSrv s id)))] := by
  refine E.Fn.ev (n := 118) mdM false mix Go.Proofs.Tryz.func82 rfl (by simp [Go.Proofs.Tryz.f82]) Go.Proofs.Tryz.ntmps82 (by simp) (by kernel_rfl) (rs := [.tmp 4]) (tys := [4]) rfl rfl (by simp [finOK, A.ts, OWN, ownE, ownT]) (by simp [resOK, A.ts, OWN, ownE, ownT, DE]) ?_
  simp only [go_sem]
  repeat' (first
    | simp only [IJS]
    | (refine E.CALL.use (in_s _ _ _) ?_ <;> (try simp only [go_sem]))
    | (refine E.CALL.use (isLog_s _ ?_) ?_ <;> (try simp only [go_sem]))
    | (refine E.CALL.use (none_s _ ?_ ?_) ?_ <;> (try simp only [go_sem]))
    | (refine E.CALL.use (lastE_s _ ?_) ?_ <;> (try simp only [go_sem]))
    | (refine E.CALL.use (role_s _ _ ?_ ?_) ?_ <;> (try simp only [go_sem]))
    | (refine E.GB.use (fun h => ?_) (fun h => ?_) <;> (simp only [go_sem, h]) <;> (try simp only [HFS] at h))
    | exact E.INDEP.mk2 (by kernel_rfl)
    | apply And.intro
    | omega
    | (have q1 := inR_of (x := s.first) (by assumption); omega; done)
    | (simp_all [validSrv]; done)
    | (have q1 := inR_of (x := s.first) (by assumption); have q2 := inR_no h; have h9 : decide (s.first + s.log.length ≤ 16) = false := (by simp; omega); simp [validSrv, h9]; done)
    | (have h9 : decide (s.conf.epoch ≤ s.epoch) = false := (by simp; omega); simp [validSrv, h9, *]; done)
    | (have h9 : decide (lastE s.log ≤ s.conf.epoch) = false := (by simp; omega); simp [validSrv, h9, *]; done)
    | (have h9 : decide ((s.log.length : Int) ≤ 3) = false := (by simp; omega); simp [validSrv, isTail, h9, *]; done)
    | (have q2 := inR_of (x := s.first + s.log.length) (by assumption); have h8 : decide (s.first + s.log.length ≤ 16) = true := (by simp; omega); have q3 := role_cases s.conf id; simp [validSrv, h8, *]; rcases q3 with q3 | q3 | q3 | q3 <;> simp_all; done)
    | (have q2 := inR_of (x := s.first + s.log.length) (by assumption); have h8 : s.first + s.log.length ≤ 16 := (by omega); have q1 := inR_of (x := s.first) (by assumption); have h9 : inR s.first 0 (16 - s.log.length) = true := (by simp [inR]; omega); simp_all [validSrv, isTail]; done)
    | fail)
end
end Go.Abs

/- Contracts of functions of the program, over the abstract machine, and facts for them. No condition. -/
import Derived.Test.YtijifinpifomcaaGreatFacts
import Derived.Test.YtijifinpifomcaaGreatPure25
import Derived.Test.YtijifinpifomcaaGreatQ3
import Derived.Test.YtijifinpifomcaaGreatQ8
set_option linter.unusedVariables false
set_option linter.unusedSimpArgs false
set_option linter.unnecessarySimpa false
set_option linter.constructorNameAsVariable false
set_option maxHeartbeats 4000000
set_option maxRecDepth 100000
namespace Go.Abs
open Go
attribute [local go_sem ↓] E.argsA_h E.wq_ret E.wq_req E.wq_bad E.wq_call E.wq_get E.wq_getO E.wq_getOs E.wq_getPs E.wq_fresh E.wq_anyNil E.wq_getR0 E.wq_getR E.wq_ixM E.wq_n E.wq_g E.wq_gn E.ev_skip E.ev_region E.ev_draw E.ev_seq E.ev_cond E.ev_block E.ev_exit E.ev_ret E.sq_n E.sq_e E.sq_r E.bl_n E.bl_e E.bl_r E.lp_n E.lp_e E.lp_r E.fk_n E.fk_r E.q_move E.q_assign E.q_pick E.q_bin E.q_binw E.q_un E.q_alloc E.q_box E.q_build E.q_buildS E.q_makeS E.q_load E.q_store E.q_nilCheck E.q_slice E.q_fieldAddr E.q_field E.q_indexAddr E.q_extract E.q_makeFunc E.q_call E.q_callT E.q_len E.q_append E.q_min E.q_max E.q_convert E.q_cap E.q_clear appendIM appendZM E.b_add E.b_sub E.b_mul E.b_eql E.b_neq E.b_lss E.b_leq E.b_gtr E.b_geq E.GO_tmp E.GO_int E.GO_bool E.GO_str E.GO_nil E.GO_func E.GOs_nil E.GOs_cons E.GPs_nil E.GPs_cons E.RW_nil E.RW_cons E.dstAt_0 E.dstAt_s E.keepL_nil E.keepL_s E.keepL_k E.rmN_nil E.rmN_cons E.memN_nil E.memN_cons E.memK_nil E.memK_cons E.ovl_nil E.ovl_kk E.ovl_sk E.ovl_ks E.ovl_ss ofL_s ofL_sk ofL_ks ofL_k ofL_nil E.CO_tmp E.CO_bool
attribute [local go_sem] E.RM_nil E.RM_cons E.kd_k E.sbr_eq E.s3_nil E.s3_s E.s3_k E.vr_c E.vr_a E.vr_p E.vr_q E.vr_t E.vr_f E.vr_u E.cr_r E.cr_v E.cr_b E.cr_n E.cr_u E.crs_nil E.crs_cons E.renK_nil E.renK_cons keysVs V.keys C.keys keysCs E.RG_nil E.RG_cons E.GV_v E.GB_true E.GB_false E.GX_b E.GG_t E.GG_f E.GG_u E.GU_some E.IX_0 E.IX_s E.CX_s E.FR_none E.EN_e E.GVB_b E.b_boolM E.b_nilM E.b_strM E.b_aggM
attribute [local go_sem] List.cons_append List.nil_append List.append_nil List.length_cons List.length_nil List.length_map List.length_append callM E.argsH_nil E.argsH_cons E.argH_c E.argH_a E.argH_f E.argH_p ptrH_s E.cellsH_nil E.cellsH_cons E.cellH_v E.cellH_b E.cellH_n E.cellH_nt E.cellH_u E.cellH_rt E.cellH_rf capsA capA callable backs backT resVs resV resC tupV lenV intV boolV getE getO entryL entryKs A.ts entryV entryC entryCs entryCap List.map_cons List.map_nil E.cut_n E.cut_r E.cutM plainL A.lastOK T.lastOK Bool.false_or A.capOK szEs szE szT SZ whole toB toC List.drop_zero List.take_zero List.take_succ_cons List.drop_succ_cons resultsM resultM outM outM1 convs conv finAs finA finT finTs Int.toNat_natCast A.plain T.plain List.isEmpty_nil List.isEmpty_cons Bool.or_true Bool.true_or Bool.and_self List.getElem?_cons_zero List.getElem?_cons_succ Option.bind_some Option.bind_none Option.bind Nat.zero_add Nat.add_zero OWN BOR ONE SCAL DE ETA E.take_rest Int.toNat_zero E.take_map E.drop_map E.take_len1 List.take_length E.app_map Int.natCast_zero Int.sub_zero Int.toNat_sub partCells V.cells convsL appendM srcM E.scalEs_nil E.scalEs_cons E.oneEs_nil E.oneEs_cons List.all_cons List.all_nil T.one Bool.and_true gone ownEs ownE ownT borEs borE borT setRow splice List.set_cons_zero List.set_cons_succ optI getOpt sliceM ptrTo app_ofL T.isV Value.oneCell' fillC zeroC spliceC allV eqVs eqV minV maxV setAt setCell holed List.dropLast List.getLast?_singleton Option.getD_some Option.isSome_some Option.isSome_none Bool.and_false Bool.true_and Bool.false_and Option.map_some Option.map_none false_or true_or or_true rowAt cellAt E.constV_nil E.constV_int E.constV_bool E.constV_str E.setCell_set E.setCell_len setRow setAt List.dropLast_cons_cons List.dropLast_singleton List.getLast?_cons_cons
attribute [local go_sem_proc ↓] reduceIte
attribute [local go_sem_proc] Nat.reduceEqDiff reduceCtorEq Nat.reduceAdd Nat.reduceMul
attribute [local irreducible] E.argsH E.argH E.cellsH E.cellH E.GV E.GB E.GX E.GG E.GU E.IX E.CX E.RW E.FR E.EN E.CALL E.GO E.GOs E.GPs E.GVB E.KD E.RM E.RG E.CO E.WQ E.EV E.SQ E.BL E.LP E.FK E.S3 E.RK E.NEXT E.NQ E.INDEP
section
attribute [local go_sem] mdG_eq mdM toNat_pred setI List.length_set
theorem idxF_I0  (l : List Int) (p : Int → Bool) (f : Nat) (hl : l.length ≤ 1048576) (hp : ∀ x ∈ l, Fn Go.Proofs.Tryz.prog f [.c (.v (vi x))] [.c .d] [.c (.v (.bool (p x)))]) : Fn Go.Proofs.Tryz.prog 161 [.c (.s false 1 (l.map eInt)), .f f []] [.c .d, .f f []] [.c (.v (vi (idxF p 0 l)))] := by
  refine E.Fn.ev (n := 19) mdG false mix Go.Proofs.Tryz.func161 rfl (by simp [Go.Proofs.Tryz.f161]) Go.Proofs.Tryz.ntmps161 (by simp) (by kernel_rfl) (rs := [.tmp 4]) (tys := [3]) rfl rfl (by simp [finOK, A.ts, OWN, ownE, ownT]) (by simp [resOK, A.ts, OWN, ownE, ownT, DE]) ?_
  simp only [go_sem]
  repeat' (first
    | simp only [IJS]
    | (refine E.CALL.use (hp _ ?_) ?_ <;> (try simp only [go_sem]))
    | (refine E.GB.use (fun h => ?_) (fun h => ?_) <;> (simp only [go_sem, h]) <;> (try simp only [HFS] at h))
    | exact E.RK.mk (by kernel_rfl)
    | (refine E.IX_map ?_ (fun hx => ?_); rotate_left; simp only [go_sem])
    | (refine E.loopR (ι := Nat) 2 rfl (fun i => [(.s 8, .v (.c (.v (vi i))))]) [0, 1, 7] [] [] (fun i => l.length - i) (fun i => i ≤ l.length ∧ idxF p i (l.drop i) = idxF p 0 l) mix (by kernel_rfl) 0 ?_ ?_ (fun i ⟨hi, hR⟩ => ?_); all_goals (try simp (maxSteps := 900000) only [go_sem]); all_goals (try dsimp only at hi hR))
    | (refine E.NEXT.use [] (i + 1) ?_ ?_ ?_; rotate_left 2; focus (simp (maxSteps := 900000) only [go_sem]; (repeat' (first | with_reducible rfl | exact E.RK.mk (by kernel_rfl) | apply And.intro | (push_cast; with_reducible rfl) | (refine E.int_c ?_; omega) | (simp only [go_sem]; done) | (rw [List.map_append]; rfl) | (simp; done) | (simp only [*]; done) | fail)); done))
    | apply And.intro
    | omega
    | (rw [drop_at (l := l) (i := i) (by omega)] at hR; simp_all [idxF]; done)
    | (rw [E.drop_end (l := l) (i := i) (by omega)] at hR; simp only [idxF] at hR; simp [← hR]; done)
    | (exact E.at_mem (by omega); done)
    | fail)
theorem anyF_I0  (l : List Int) (p : Int → Bool) (f : Nat) (hl : l.length ≤ 1048576) (hp : ∀ x ∈ l, Fn Go.Proofs.Tryz.prog f [.c (.v (vi x))] [.c .d] [.c (.v (.bool (p x)))]) : Fn Go.Proofs.Tryz.prog 136 [.c (.s false 1 (l.map eInt)), .f f []] [.c .d, .f f []] [.c (.v (.bool (l.any p)))] := by
  refine E.Fn.ev (n := 9) mdG false mix Go.Proofs.Tryz.func136 rfl (by simp [Go.Proofs.Tryz.f136]) Go.Proofs.Tryz.ntmps136 (by simp) (by kernel_rfl) (rs := [.tmp 4]) (tys := [4]) rfl rfl (by simp [finOK, A.ts, OWN, ownE, ownT]) (by simp [resOK, A.ts, OWN, ownE, ownT, DE]) ?_
  simp only [go_sem]
  repeat' (first
    | simp only [IJS]
    | (refine E.CALL.use (idxF_I0 l p f hl hp) ?_ <;> (try simp only [go_sem]))
    | (rw [← idxF_any p l 0]; done)
    | fail)
theorem idxF_I1  (l : List Int) (p : Int → Bool) (f : Nat) (q1 : Nat) (e1 : List (List T)) (hl : l.length ≤ 1048576) (hp : ∀ x ∈ l, Fn Go.Proofs.Tryz.prog f [.c (.v (vi x)), .q q1 e1 0 0] [.c .d, .q q1 e1 0 0] [.c (.v (.bool (p x)))]) : Fn Go.Proofs.Tryz.prog 161 [.c (.s false 1 (l.map eInt)), .f f [.q q1 e1 0 0]] [.c .d, .f f [.q q1 e1 0 0]] [.c (.v (vi (idxF p 0 l)))] := by
  refine E.Fn.ev (n := 19) mdG false mix Go.Proofs.Tryz.func161 rfl (by simp [Go.Proofs.Tryz.f161]) Go.Proofs.Tryz.ntmps161 (by simp) (by kernel_rfl) (rs := [.tmp 4]) (tys := [3]) rfl rfl (by simp [finOK, A.ts, OWN, ownE, ownT]) (by simp [resOK, A.ts, OWN, ownE, ownT, DE]) ?_
  simp only [go_sem]
  repeat' (first
    | simp only [IJS]
    | (refine E.CALL.use (hp _ ?_) ?_ <;> (try simp only [go_sem]))
    | (refine E.GB.use (fun h => ?_) (fun h => ?_) <;> (simp only [go_sem, h]) <;> (try simp only [HFS] at h))
    | exact E.RK.mk (by kernel_rfl)
    | (refine E.IX_map ?_ (fun hx => ?_); rotate_left; simp only [go_sem])
    | (refine E.loopR (ι := Nat) 2 rfl (fun i => [(.s 8, .v (.c (.v (vi i))))]) [0, 1, 7] [] [] (fun i => l.length - i) (fun i => i ≤ l.length ∧ idxF p i (l.drop i) = idxF p 0 l) mix (by kernel_rfl) 0 ?_ ?_ (fun i ⟨hi, hR⟩ => ?_); all_goals (try simp (maxSteps := 900000) only [go_sem]); all_goals (try dsimp only at hi hR))
    | (refine E.NEXT.use [] (i + 1) ?_ ?_ ?_; rotate_left 2; focus (simp (maxSteps := 900000) only [go_sem]; (repeat' (first | with_reducible rfl | exact E.RK.mk (by kernel_rfl) | apply And.intro | (push_cast; with_reducible rfl) | (refine E.int_c ?_; omega) | (simp only [go_sem]; done) | (rw [List.map_append]; rfl) | (simp; done) | (simp only [*]; done) | fail)); done))
    | apply And.intro
    | omega
    | (rw [drop_at (l := l) (i := i) (by omega)] at hR; simp_all [idxF]; done)
    | (rw [E.drop_end (l := l) (i := i) (by omega)] at hR; simp only [idxF] at hR; simp [← hR]; done)
    | (exact E.at_mem (by omega); done)
    | fail)
theorem idxF_P0  (l : List Plc) (p : Plc → Bool) (f : Nat) (hl : l.length ≤ 1048576) (hp : ∀ x ∈ l, Fn Go.Proofs.Tryz.prog f [.a (ePlc x)] [.a [.d, .d, .d]] [.c (.v (.bool (p x)))]) : Fn Go.Proofs.Tryz.prog 172 [.c (.s false 3 (l.map ePlc)), .f f []] [.c .d, .f f []] [.c (.v (vi (idxF p 0 l)))] := by
  refine E.Fn.ev (n := 19) mdG false mix Go.Proofs.Tryz.func172 rfl (by simp [Go.Proofs.Tryz.f172]) Go.Proofs.Tryz.ntmps172 (by simp) (by kernel_rfl) (rs := [.tmp 4]) (tys := [3]) rfl rfl (by simp [finOK, A.ts, OWN, ownE, ownT]) (by simp [resOK, A.ts, OWN, ownE, ownT, DE]) ?_
  simp only [go_sem]
  repeat' (first
    | simp only [IJS]
    | (refine E.CALL.use (hp _ ?_) ?_ <;> (try simp only [go_sem]))
    | (refine E.GB.use (fun h => ?_) (fun h => ?_) <;> (simp only [go_sem, h]) <;> (try simp only [HFS] at h))
    | exact E.RK.mk (by kernel_rfl)
    | (refine E.IX_map ?_ (fun hx => ?_); rotate_left; simp only [go_sem])
    | (refine E.loopR (ι := Nat) 2 rfl (fun i => [(.s 8, .v (.c (.v (vi i))))]) [0, 1, 7] [] [] (fun i => l.length - i) (fun i => i ≤ l.length ∧ idxF p i (l.drop i) = idxF p 0 l) mix (by kernel_rfl) 0 ?_ ?_ (fun i ⟨hi, hR⟩ => ?_); all_goals (try simp (maxSteps := 900000) only [go_sem]); all_goals (try dsimp only at hi hR))
    | (refine E.NEXT.use [] (i + 1) ?_ ?_ ?_; rotate_left 2; focus (simp (maxSteps := 900000) only [go_sem]; (repeat' (first | with_reducible rfl | exact E.RK.mk (by kernel_rfl) | apply And.intro | (push_cast; with_reducible rfl) | (refine E.int_c ?_; omega) | (simp only [go_sem]; done) | (rw [List.map_append]; rfl) | (simp; done) | (simp only [*]; done) | fail)); done))
    | apply And.intro
    | omega
    | (rw [drop_at (l := l) (i := i) (by omega)] at hR; simp_all [idxF]; done)
    | (rw [E.drop_end (l := l) (i := i) (by omega)] at hR; simp only [idxF] at hR; simp [← hR]; done)
    | (exact E.at_mem (by omega); done)
    | fail)
theorem anyF_P0  (l : List Plc) (p : Plc → Bool) (f : Nat) (hl : l.length ≤ 1048576) (hp : ∀ x ∈ l, Fn Go.Proofs.Tryz.prog f [.a (ePlc x)] [.a [.d, .d, .d]] [.c (.v (.bool (p x)))]) : Fn Go.Proofs.Tryz.prog 167 [.c (.s false 3 (l.map ePlc)), .f f []] [.c .d, .f f []] [.c (.v (.bool (l.any p)))] := by
  refine E.Fn.ev (n := 9) mdG false mix Go.Proofs.Tryz.func167 rfl (by simp [Go.Proofs.Tryz.f167]) Go.Proofs.Tryz.ntmps167 (by simp) (by kernel_rfl) (rs := [.tmp 4]) (tys := [4]) rfl rfl (by simp [finOK, A.ts, OWN, ownE, ownT]) (by simp [resOK, A.ts, OWN, ownE, ownT, DE]) ?_
  simp only [go_sem]
  repeat' (first
    | simp only [IJS]
    | (refine E.CALL.use (idxF_P0 l p f hl hp) ?_ <;> (try simp only [go_sem]))
    | (rw [← idxF_any p l 0]; done)
    | fail)
end
section
attribute [local go_sem] mdG_eq mdM toNat_pred setI List.length_set
theorem compact_c (l : List Int) (hl : l.length ≤ 1048576) : Fn Go.Proofs.Tryz.prog 171 [.c (.s true 1 (l.map eInt))] [.c .d] [.c (.s true 1 ((comp l).map eInt))] := by
  refine E.Fn.evC (n := 61) mdG false mix Go.Proofs.Tryz.func171 rfl (by simp [Go.Proofs.Tryz.f171]) Go.Proofs.Tryz.ntmps171 (by simp) (by kernel_rfl) (t := 2) (ty := 23) (sz := 1) (r := (comp l).map eInt) rfl rfl ki23 rfl (by simp [OWN]) ?_
  simp only [go_sem]
  repeat' (first
    | simp only [IJS]
    | (refine E.GB.use (fun h => ?_) (fun h => ?_) <;> (simp only [go_sem, h]) <;> (try simp only [HFS] at h))
    | exact E.INDEP.mk2 (by kernel_rfl)
    | exact E.RK.mk (by kernel_rfl)
    | (refine E.IX_map ?_ (fun hx => ?_); rotate_left; simp only [go_sem])
    | (refine E.loopR (ι := Nat) 4 rfl (fun i => [(.s 3, .v (.c (.v (vi i))))]) [0, 60] [] [] (fun i => l.length - i) (fun i => 1 ≤ i ∧ i ≤ l.length ∧ ∀ k, 0 < k → k < i → at' l k ≠ at' l (k - 1)) mix (by kernel_rfl) 1 ?_ ?_ (fun i ⟨h1i, hi, hR⟩ => ?_); all_goals (try simp (maxSteps := 900000) only [go_sem]); all_goals (try dsimp only at h1i hi hR))
    | (refine E.NEXT.use [] (i + 1) ?_ ?_ ?_; rotate_left 2; focus (simp (maxSteps := 900000) only [go_sem]; (repeat' (first | with_reducible rfl | exact E.RK.mk (by kernel_rfl) | apply And.intro | (push_cast; with_reducible rfl) | (refine E.int_c ?_; omega) | (simp only [go_sem]; done) | (rw [List.map_append]; rfl) | (simp; done) | (simp only [*]; done) | (rw [set_app' (by omega)]; done) | (refine E.int_c ?_; simp only [List.length_append, List.length_cons, List.length_nil]; omega; done) | fail)); done))
    | (refine E.loopR (ι := List Int × Nat) 9 rfl (fun ⟨c, j⟩ => [(.s 3, .v (.c (.v (vi c.length)))), (.s 5, .v (.c (.v (vi j)))), (.k (0, 0), .e ⟨0, 1, (c ++ l.drop c.length).map eInt⟩)]) [0, 2, 4, 10, 11, 12, 13, 14, 15, 16, 17, 18, 19, 20, 21, 22, 23, 24, 25, 26, 27, 28, 54, 55, 56, 57, 58, 59, 60] [(0, 0)] [] (fun ⟨c, j⟩ => l.length - (i + j)) (fun ⟨c, j⟩ => c.length < i + j ∧ 1 ≤ j ∧ i + j ≤ l.length ∧ c ++ compGo (some (at' l (i + j - 1))) (l.drop (i + j)) = comp l) mix (by kernel_rfl) (l.take i, 1) ?_ ?_ (fun ⟨c, j⟩ ⟨hc, h1j, hj, hQ⟩ => ?_); all_goals (try simp (maxSteps := 900000) only [go_sem]); all_goals (try dsimp only at hc h1j hj hQ))
    | (refine E.NEXT.use [] (c, j + 1) ?_ ?_ ?_; rotate_left 2; focus (simp (maxSteps := 900000) only [go_sem]; (repeat' (first | with_reducible rfl | exact E.RK.mk (by kernel_rfl) | apply And.intro | (push_cast; with_reducible rfl) | (refine E.int_c ?_; omega) | (simp only [go_sem]; done) | (rw [List.map_append]; rfl) | (simp; done) | (simp only [*]; done) | (rw [set_app' (by omega)]; done) | (refine E.int_c ?_; simp only [List.length_append, List.length_cons, List.length_nil]; omega; done) | fail)); done))
    | (refine E.NEXT.use [] (c ++ [at' (c ++ l.drop c.length) (i + j)], j + 1) ?_ ?_ ?_; rotate_left 2; focus (simp (maxSteps := 900000) only [go_sem]; (repeat' (first | with_reducible rfl | exact E.RK.mk (by kernel_rfl) | apply And.intro | (push_cast; with_reducible rfl) | (refine E.int_c ?_; omega) | (simp only [go_sem]; done) | (rw [List.map_append]; rfl) | (simp; done) | (simp only [*]; done) | (rw [set_app' (by omega)]; done) | (refine E.int_c ?_; simp only [List.length_append, List.length_cons, List.length_nil]; omega; done) | fail)); done))
    | apply And.intro
    | omega
    | (simp only [List.length_take, List.length_drop, List.length_append, List.length_set, List.length_cons, List.length_nil]; omega)
    | (push_cast; with_reducible rfl)
    | refine congrArg (List.map _) ?_
    | (refine (comp_none fun k h1 h2 => ?_).symm; omega; done)
    | (rw [comp, comp_id i l none (by omega) (.inl rfl) hR (by omega), drop_at (i := i) (by omega)]; simp [compGo, *]; done)
    | (rw [List.length_take, Nat.min_eq_left (by omega), List.take_append_drop]; done)
    | (rw [at_app (by omega), at_app (by omega), show i + (j - 1) = i + j - 1 by omega] at h; rw [← hQ, drop_at (i := i + j) (by omega)]; simp [compGo, h, ← Nat.add_assoc]; done)
    | (rw [at_app (by omega), at_app (by omega), show i + (j - 1) = i + j - 1 by omega] at h; (try dsimp only); rw [at_app (by omega), ← hQ, drop_at (i := i + j) (by omega)]; simp [compGo, Ne.symm h, ← Nat.add_assoc]; done)
    | (rw [take_app2]; rw [E.drop_end (by omega)] at hQ; simp only [compGo, List.append_nil] at hQ; rw [hQ]; done)
    | (intro k h1 h2; rcases Nat.lt_or_eq_of_le (Nat.le_of_lt_succ h2) with h3 | h3; exact hR k h1 h3; subst h3; assumption; done)
    | (refine (comp_none fun k h1 h2 => hR k h1 (by omega)).symm; done)
    | (simp; omega; done)
    | fail)
theorem delF_I1  (l : List Int) (p : Int → Bool) (f : Nat) (q1 : Nat) (e1 : List (List T)) (hl : l.length ≤ 1048576) (hp : ∀ x ∈ l, Fn Go.Proofs.Tryz.prog f [.c (.v (vi x)), .q q1 e1 0 0] [.c .d, .q q1 e1 0 0] [.c (.v (.bool (p x)))]) : Fn Go.Proofs.Tryz.prog 163 [.c (.s true 1 (l.map eInt)), .f f [.q q1 e1 0 0]] [.c .d, .f f [.q q1 e1 0 0]] [.c (.s true 1 ((l.filter fun x => !p x).map eInt))] := by
  refine E.Fn.evC (n := 42) mdG false mix Go.Proofs.Tryz.func163 rfl (by simp [Go.Proofs.Tryz.f163]) Go.Proofs.Tryz.ntmps163 (by simp) (by kernel_rfl) (t := 4) (ty := 23) (sz := 1) (r := (l.filter fun x => !p x).map eInt) rfl rfl ki23 rfl (by simp [OWN]) ?_
  simp only [go_sem]
  repeat' (first
    | simp only [IJS]
    | (refine E.CALL.use (hp _ ?_) ?_ <;> (try simp only [go_sem]))
    | (refine E.CALL.use (idxF_I1 l p f q1 e1 hl hp) ?_ <;> (try simp only [go_sem]))
    | (refine E.GB.use (fun h => ?_) (fun h => ?_) <;> (simp only [go_sem, h]) <;> (try simp only [HFS] at h))
    | exact E.RK.mk (by kernel_rfl)
    | (refine E.IX_map ?_ (fun hx => ?_); rotate_left; simp only [go_sem])
    | (refine E.loopR (ι := List Int × Nat) 5 rfl (fun ⟨c, j⟩ => [(.s 5, .v (.c (.v (vi c.length)))), (.s 6, .v (.c (.v (vi j)))), (.k (0, 0), .e ⟨0, 1, (c ++ l.drop c.length).map eInt⟩)]) [0, 1, 4, 36, 37, 38, 39, 40, 41] [(0, 0)] [] (fun ⟨c, j⟩ => l.length - j) (fun ⟨c, j⟩ => c.length < j ∧ j ≤ l.length ∧ c ++ (l.drop j).filter (fun x => !p x) = l.filter fun x => !p x) mix (by kernel_rfl) (l.take (idxF p 0 l).toNat, (idxF p 0 l).toNat + 1) ?_ ?_ (fun ⟨c, j⟩ ⟨hc, hj, hQ⟩ => ?_); all_goals (try simp (maxSteps := 900000) only [go_sem]); all_goals (try dsimp only at hc hj hQ))
    | (refine E.NEXT.use [] (c, j + 1) ?_ ?_ ?_; rotate_left 2; focus (simp (maxSteps := 900000) only [go_sem]; (repeat' (first | with_reducible rfl | exact E.RK.mk (by kernel_rfl) | apply And.intro | (push_cast; with_reducible rfl) | (refine E.int_c ?_; omega) | (simp only [go_sem]; done) | (rw [List.map_append]; rfl) | (simp; done) | (simp only [*]; done) | (rw [set_app' (by omega)]; done) | (refine E.int_c ?_; simp only [List.length_append, List.length_cons, List.length_nil]; omega; done) | fail)); done))
    | (refine E.NEXT.use [] (c ++ [at' (c ++ l.drop c.length) j], j + 1) ?_ ?_ ?_; rotate_left 2; focus (simp (maxSteps := 900000) only [go_sem]; (repeat' (first | with_reducible rfl | exact E.RK.mk (by kernel_rfl) | apply And.intro | (push_cast; with_reducible rfl) | (refine E.int_c ?_; omega) | (simp only [go_sem]; done) | (rw [List.map_append]; rfl) | (simp; done) | (simp only [*]; done) | (rw [set_app' (by omega)]; done) | (refine E.int_c ?_; simp only [List.length_append, List.length_cons, List.length_nil]; omega; done) | fail)); done))
    | apply And.intro
    | omega
    | (simp only [List.length_take, List.length_drop, List.length_append, List.length_set, List.length_cons, List.length_nil]; omega)
    | refine congrArg (List.map _) ?_
    | (rw [at_app (by omega)]; exact E.at_mem (by omega); done)
    | (rw [idxF_no (by assumption)]; done)
    | (have q := idxF_yes (by assumption); omega; done)
    | (refine E.int_c ?_; have q := idxF_yes (by assumption); omega; done)
    | (exact (idxF_yes (by assumption)).2.2.2; done)
    | (rw [(idxF_yes (by assumption)).2.2.1, List.take_append_drop]; done)
    | ((try dsimp only); rw [at_app (by omega)] at h; rw [← hQ, drop_at (i := j) (by omega)]; simp [h]; done)
    | ((try dsimp only); rw [at_app (by omega)] at h; rw [at_app (by omega), ← hQ, drop_at (i := j) (by omega)]; simp [h]; done)
    | (rw [take_app2]; rw [E.drop_end (by omega)] at hQ; simp only [List.filter_nil, List.append_nil] at hQ; rw [hQ]; done)
    | fail)
end
section
attribute [local go_sem] mdM toNat_pred
theorem putI_len : ∀ (l : List Int) (x : Int), (putI l x).length ≤ l.length + 1
  | [], x => by simp [putI]
  | y :: l, x => by
    have := putI_len l x
    simp only [putI]
    split
    · simpa using this
    · split <;> simp
theorem foldl_filter_one (p : Int → Bool) (x : Int) (xs s : List Int) : ((x :: xs).filter p).foldl putI s = (xs.filter p).foldl putI (if p x then putI s x else s) := by
  by_cases h : p x = true
  · simp [List.filter_cons_of_pos h, h]
  · simp [List.filter_cons_of_neg h, h]
theorem common_s (a : List Int) (b : List Int) (ha : a.length ≤ 1048576) (hb : b.length ≤ 1048576) : Fn Go.Proofs.Tryz.prog 148 [.c (.s false 1 (a.map eInt)), .c (.s false 1 (b.map eInt))] [.c .d, .c .d] [.c (.s true 1 ((common a b).map eInt))] := by
  refine E.Fn.ev (n := 27) mdM false mix Go.Proofs.Tryz.func148 rfl (by simp [Go.Proofs.Tryz.f148]) Go.Proofs.Tryz.ntmps148 (by simp) (by kernel_rfl) (rs := [.tmp 4]) (tys := [23]) rfl rfl (by simp [finOK, A.ts, OWN, ownE, ownT]) (by simp [resOK, A.ts, OWN, ownE, ownT, DE]) ?_
  simp only [go_sem]
  repeat' (first
    | simp only [IJS]
    | (refine E.CALL.use (has_s _ _ ?_) ?_ <;> (try simp only [go_sem]))
    | (refine E.CALL.use (put_s _ _ ?_) ?_ <;> (try simp only [go_sem]))
    | (refine E.GB.use (fun h => ?_) (fun h => ?_) <;> (simp only [go_sem, h]) <;> (try simp only [HFS] at h))
    | exact E.RK.mk (by kernel_rfl)
    | (refine E.IX_map ?_ (fun hx => ?_); rotate_left; simp only [go_sem])
    | (refine E.loopR (ι := Nat × List Int) 3 rfl (fun ⟨i, out⟩ => [(.s 6, .v (.c (.v (vi i)))), (.s 5, .v (.c (.r (7, 0) 0 [] 0 (out).length))), (.k (7, 0), .e ⟨0, 1, (out).map eInt⟩)]) [0, 1, 4, 26] [(7, 0)] [] (fun ⟨i, out⟩ => a.length - i) (fun ⟨i, out⟩ => i ≤ a.length ∧ out.length ≤ i ∧ ((a.drop i).filter (fun x => b.contains x)).foldl putI out = common a b) mix (by kernel_rfl) (0, []) ?_ ?_ (fun ⟨i, out⟩ ⟨hi, ho, hR⟩ => ?_); all_goals (try simp (maxSteps := 900000) only [go_sem]); all_goals (try dsimp only at hi ho hR))
    | (refine E.NEXT.use [((7, 0), (25, 0))] (i + 1, putI out (at' a i)) ?_ ?_ ?_; rotate_left 2; focus (simp (maxSteps := 900000) only [go_sem]; (repeat' (first | with_reducible rfl | exact E.RK.mk (by kernel_rfl) | apply And.intro | (push_cast; with_reducible rfl) | (refine E.int_c ?_; omega) | (simp only [go_sem]; done) | (rw [List.map_append]; rfl) | (simp; done) | (simp only [*]; done) | fail)); done))
    | (refine E.NEXT.use [] (i + 1, out) ?_ ?_ ?_; rotate_left 2; focus (simp (maxSteps := 900000) only [go_sem]; (repeat' (first | with_reducible rfl | exact E.RK.mk (by kernel_rfl) | apply And.intro | (push_cast; with_reducible rfl) | (refine E.int_c ?_; omega) | (simp only [go_sem]; done) | (rw [List.map_append]; rfl) | (simp; done) | (simp only [*]; done) | fail)); done))
    | apply And.intro
    | omega
    | refine congrArg (List.map _) ?_
    | (rw [drop_at (l := a) (i := i) (by omega)] at hR; rw [foldl_filter_one] at hR; simp only [h, if_true, if_false, Bool.false_eq_true, Bool.not_true, Bool.not_false] at hR; exact hR; done)
    | (rw [E.drop_end (l := a) (i := i) (by omega)] at hR; simpa using hR; done)
    | (rfl; done)
    | (have := putI_len out (at' a i); omega; done)
    | fail)
theorem areSides_s (l : List Int) (hl : l.length ≤ 1048576) : Fn Go.Proofs.Tryz.prog 92 [.c (.s false 1 (l.map eInt))] [.c .d] [.c (.v (.bool (areSides l)))] := by
  refine E.Fn.ev (n := 19) mdM false mix Go.Proofs.Tryz.func92 rfl (by simp [Go.Proofs.Tryz.f92]) Go.Proofs.Tryz.ntmps92 (by simp) (by kernel_rfl) (rs := [.tmp 2]) (tys := [4]) rfl rfl (by simp [finOK, A.ts, OWN, ownE, ownT]) (by simp [resOK, A.ts, OWN, ownE, ownT, DE]) ?_
  simp only [go_sem]
  repeat' (first
    | simp only [IJS]
    | (refine E.CALL.use (in_s _ _ _) ?_ <;> (try simp only [go_sem]))
    | (refine E.GB.use (fun h => ?_) (fun h => ?_) <;> (simp only [go_sem, h]) <;> (try simp only [HFS] at h))
    | exact E.RK.mk (by kernel_rfl)
    | (refine E.IX_map ?_ (fun hx => ?_); rotate_left; simp only [go_sem])
    | (refine E.loopR (ι := Nat) 2 rfl (fun i => [(.s 3, .v (.c (.v (vi i))))]) [0, 16, 17, 18] [] [] (fun i => (l).length - i) (fun i => i ≤ (l).length ∧ (((l.length : Int) == 5) && (l.drop i).all side) = areSides l) mix (by kernel_rfl) 0 ?_ ?_ (fun i ⟨hi, hR⟩ => ?_); all_goals (try simp (maxSteps := 900000) only [go_sem]); all_goals (try dsimp only at hi hR))
    | (refine E.NEXT.use [] (i + 1) ?_ ?_ ?_; rotate_left 2; focus (simp (maxSteps := 900000) only [go_sem]; (repeat' (first | with_reducible rfl | exact E.RK.mk (by kernel_rfl) | apply And.intro | (push_cast; with_reducible rfl) | (refine E.int_c ?_; omega) | (simp only [go_sem]; done) | (rw [List.map_append]; rfl) | (simp; done) | (simp only [*]; done) | fail)); done))
    | apply And.intro
    | omega
    | (rw [drop_at (l := l) (i := i) (by omega)] at hR; rw [← hR]; simp [side, h]; done)
    | (rw [E.drop_end (l := l) (i := i) (by omega)] at hR; rw [← hR]; simp; done)
    | (rfl; done)
    | fail)
def okPlc (p : Plc) : Bool := inR p.rack 0 9 && inR p.cap 0 9 && inR p.load 0 99
theorem arePlc_s (l : List Plc) (hl : l.length ≤ 1048576) : Fn Go.Proofs.Tryz.prog 154 [.c (.s false 3 (l.map ePlc))] [.c .d] [.c (.v (.bool (arePlaces l)))] := by
  refine E.Fn.ev (n := 38) mdM false mix Go.Proofs.Tryz.func154 rfl (by simp [Go.Proofs.Tryz.f154]) Go.Proofs.Tryz.ntmps154 (by simp) (by kernel_rfl) (rs := [.tmp 2]) (tys := [4]) rfl rfl (by simp [finOK, A.ts, OWN, ownE, ownT]) (by simp [resOK, A.ts, OWN, ownE, ownT, DE]) ?_
  simp only [go_sem]
  repeat' (first
    | simp only [IJS]
    | (refine E.CALL.use (in_s _ _ _) ?_ <;> (try simp only [go_sem]))
    | (refine E.GB.use (fun h => ?_) (fun h => ?_) <;> (simp only [go_sem, h]) <;> (try simp only [HFS] at h))
    | exact E.RK.mk (by kernel_rfl)
    | (refine E.IX_map ?_ (fun hx => ?_); rotate_left; simp only [go_sem])
    | (refine E.loopR (ι := Nat) 2 rfl (fun i => [(.s 3, .v (.c (.v (vi i))))]) [0, 35, 36, 37] [] [] (fun i => (l).length - i) (fun i => i ≤ (l).length ∧ (((l.length : Int) == 5) && (l.drop i).all fun p => inR p.rack 0 9 && inR p.cap 0 9 && inR p.load 0 99) = arePlaces l) mix (by kernel_rfl) 0 ?_ ?_ (fun i ⟨hi, hR⟩ => ?_); all_goals (try simp (maxSteps := 900000) only [go_sem]); all_goals (try dsimp only at hi hR))
    | (refine E.NEXT.use [] (i + 1) ?_ ?_ ?_; rotate_left 2; focus (simp (maxSteps := 900000) only [go_sem]; (repeat' (first | with_reducible rfl | exact E.RK.mk (by kernel_rfl) | apply And.intro | (push_cast; with_reducible rfl) | (refine E.int_c ?_; omega) | (simp only [go_sem]; done) | (rw [List.map_append]; rfl) | (simp; done) | (simp only [*]; done) | fail)); done))
    | apply And.intro
    | omega
    | (rw [drop_at (l := l) (i := i) (by omega)] at hR; rw [← hR]; simp [*]; done)
    | (rw [E.drop_end (l := l) (i := i) (by omega)] at hR; rw [← hR]; simp; done)
    | (rfl; done)
    | fail)
theorem validConf_s (c : Conf) (h1 : c.reps.length ≤ 1048576) (h2 : c.wits.length ≤ 1048576) : Fn Go.Proofs.Tryz.prog 114 [.a (eConf false c)] [.a [.d, .d, .d, .d]] [.c (.v (.bool (validConf c)))] := by
  refine E.Fn.ev (n := 32) mdM false mix Go.Proofs.Tryz.func114 rfl (by simp [Go.Proofs.Tryz.f114]) Go.Proofs.Tryz.ntmps114 (by simp) (by kernel_rfl) (rs := [.tmp 2]) (tys := [4]) rfl rfl (by simp [finOK, A.ts, OWN, ownE, ownT]) (by simp [resOK, A.ts, OWN, ownE, ownT, DE]) ?_
  simp only [go_sem]
  repeat' (first
    | simp only [IJS]
    | (refine E.CALL.use (in_s _ _ _) ?_ <;> (try simp only [go_sem]))
    | (refine E.CALL.use (areSrv_s _ ?_) ?_ <;> (try simp only [go_sem]))
    | (refine E.CALL.use (has_s _ _ ?_) ?_ <;> (try simp only [go_sem]))
    | (refine E.CALL.use (common_s _ _ ?_ ?_) ?_ <;> (try simp only [go_sem]))
    | (refine E.GB.use (fun h => ?_) (fun h => ?_) <;> (simp only [go_sem, h]) <;> (try simp only [HFS] at h))
    | apply And.intro
    | omega
    | (simp_all [validConf]; done)
    | fail)
theorem role_s (c : Conf) (id : Int) (h1 : c.reps.length ≤ 1048576) (h2 : c.wits.length ≤ 1048576) : Fn Go.Proofs.Tryz.prog 74 [.a (eConf false c), .c (.v (vi id))] [.a [.d, .d, .d, .d], .c .d] [.c (.v (vi (roleOf c id)))] := by
  refine E.Fn.ev (n := 24) mdM false mix Go.Proofs.Tryz.func74 rfl (by simp [Go.Proofs.Tryz.f74]) Go.Proofs.Tryz.ntmps74 (by simp) (by kernel_rfl) (rs := [.tmp 4]) (tys := [3]) rfl rfl (by simp [finOK, A.ts, OWN, ownE, ownT]) (by simp [resOK, A.ts, OWN, ownE, ownT, DE]) ?_
  simp only [go_sem]
  repeat' (first
    | simp only [IJS]
    | (refine E.CALL.use (validConf_s _ ?_ ?_) ?_ <;> (try simp only [go_sem]))
    | (refine E.CALL.use (has_s _ _ ?_) ?_ <;> (try simp only [go_sem]))
    | (refine E.GB.use (fun h => ?_) (fun h => ?_) <;> (simp only [go_sem, h]) <;> (try simp only [HFS] at h))
    | apply And.intro
    | omega
    | (simp_all [roleOf]; done)
    | fail)
theorem sameSide_s (l : List Int) (a : Int) (b : Int) (hl : l.length ≤ 1048576) : Fn Go.Proofs.Tryz.prog 35 [.c (.s false 1 (l.map eInt)), .c (.v (vi a)), .c (.v (vi b))] [.c .d, .c .d, .c .d] [.c (.v (.bool (sameSide l a b)))] := by
  refine E.Fn.ev (n := 28) mdM false mix Go.Proofs.Tryz.func35 rfl (by simp [Go.Proofs.Tryz.f35]) Go.Proofs.Tryz.ntmps35 (by simp) (by kernel_rfl) (rs := [.tmp 6]) (tys := [4]) rfl rfl (by simp [finOK, A.ts, OWN, ownE, ownT]) (by simp [resOK, A.ts, OWN, ownE, ownT, DE]) ?_
  simp only [go_sem]
  repeat' (first
    | simp only [IJS]
    | (refine E.CALL.use (areSides_s _ ?_) ?_ <;> (try simp only [go_sem]))
    | (refine E.CALL.use (in_s _ _ _) ?_ <;> (try simp only [go_sem]))
    | (refine E.GB.use (fun h => ?_) (fun h => ?_) <;> (simp only [go_sem, h]) <;> (try simp only [HFS] at h))
    | exact E.INDEP.mk2 (by kernel_rfl)
    | (refine E.IX_map ?_ (fun hx => ?_); rotate_left; simp only [go_sem])
    | apply And.intro
    | omega
    | (have q1 := areSides_len (l := l) (by assumption); have q2 := inR_of (x := a) (by assumption); have q3 := inR_of (x := b) (by assumption); omega; done)
    | (simp [sameSide, *]; done)
    | fail)
end
section
attribute [local go_sem] mdG_eq mdM toNat_pred setI List.length_set
def eLI (l : List Int) : List T := [.s false 1 (l.map eInt)]
theorem eLI_eq (l : List Int) : eLI l = [.s false 1 (l.map eInt)] := rfl
def eLE (l : List LEnt) : List T := [.s false 7 (l.map eLEnt)]
theorem eLE_eq (l : List LEnt) : eLE l = [.s false 7 (l.map eLEnt)] := rfl
theorem flat_at {α : Type} : ∀ {ls : List (List α)} {i : Nat}, i < ls.length → (ls.take i).flatten.length + (at' ls i).length ≤ ls.flatten.length
  | l :: ls, 0, h => by simp [at']
  | l :: ls, i + 1, h => by
    have := flat_at (ls := ls) (i := i) (by simpa using h)
    simp only [List.take_succ_cons, List.flatten_cons, List.length_append] at this ⊢
    simp only [at', List.getD_cons_succ] at this ⊢
    omega
theorem flat_take {α : Type} {ls : List (List α)} {i : Nat} (h : i < ls.length) : (ls.take (i + 1)).flatten = (ls.take i).flatten ++ at' ls i := by
  rw [E.take_at h, List.flatten_append]; simp
end
section
attribute [local go_sem] mdG_eq mdM toNat_pred setI List.length_set
def mdL (f i : Nat) : Bool := if i = 0 then (if f = 170 then true else if f = 173 then true else if f = 175 then true else if f = 171 then true else if f = 163 then true else if f = 53 then true else if f = 106 then true else if f = 107 then true else if f = 54 then true else if f = 55 then true else if f = 52 then true else if f = 10 then true else false) else false
theorem mdL_eq (f i : Nat) : mdL f i = if i = 0 then (if f = 170 then true else if f = 173 then true else if f = 175 then true else if f = 171 then true else if f = 163 then true else if f = 53 then true else if f = 106 then true else if f = 107 then true else if f = 54 then true else if f = 55 then true else if f = 52 then true else if f = 10 then true else false) else false := rfl
theorem zeros {α : Type} (f : α → List T) (n : Nat) (z : α) : List.replicate n (f z) = (List.replicate n z).map f := by simp
theorem E.b_rem {P : Program} {dr : Bool} {t : TypeId} {ik : IntKind} {m n : Int} {k : V → M} {st : St} {rs : List Loc} {K : List Loc → Ws → Prop} : E.WQ P dr (bin2 P .rem t (.c (.v (.int ik m))) (.c (.v (.int ik n))) k) st rs K () = (n ≠ 0 ∧ E.WQ P dr (k (.c (.v (.int ik (m.tmod n))))) st rs K ()) := by
  by_cases hn : n = 0
  · subst hn; simp [bin2, binM, intBin, E.wq_bad]
  · simp [bin2, binM, intBin, hn]
end
end Go.Abs

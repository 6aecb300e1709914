/- Contracts of functions of the program, over the abstract machine, and facts for them. No condition. -/
import Derived.Test.YtijifinpifomcaaGreatFacts
import Derived.Test.YtijifinpifomcaaGreatPure26
import Derived.Test.YtijifinpifomcaaGreatQ10
import Derived.Test.YtijifinpifomcaaGreatQ3
import Derived.Test.YtijifinpifomcaaGreatQ8
set_option linter.unusedVariables false
set_option linter.unusedSimpArgs false
set_option linter.unnecessarySimpa false
set_option linter.constructorNameAsVariable false
set_option maxHeartbeats 4000000
set_option maxRecDepth 100000
namespace Go.Abs
open Go
attribute [local go_sem ↓] E.argsA_h E.wq_ret E.wq_req E.wq_bad E.wq_call E.wq_get E.wq_getO E.wq_getOs E.wq_getPs E.wq_fresh E.wq_anyNil E.wq_getR0 E.wq_getR E.wq_ixM E.wq_n E.wq_g E.wq_gn E.ev_skip E.ev_region E.ev_draw E.ev_seq E.ev_cond E.ev_block E.ev_exit E.ev_ret E.sq_n E.sq_e E.sq_r E.bl_n E.bl_e E.bl_r E.lp_n E.lp_e E.lp_r E.fk_n E.fk_r E.q_move E.q_assign E.q_pick E.q_bin E.q_binw E.q_un E.q_alloc E.q_box E.q_build E.q_buildS E.q_makeS E.q_load E.q_store E.q_nilCheck E.q_slice E.q_fieldAddr E.q_field E.q_indexAddr E.q_extract E.q_makeFunc E.q_call E.q_callT E.q_len E.q_append E.q_min E.q_max E.q_convert E.q_cap E.q_clear appendIM appendZM E.b_add E.b_sub E.b_mul E.b_eql E.b_neq E.b_lss E.b_leq E.b_gtr E.b_geq E.GO_tmp E.GO_int E.GO_bool E.GO_str E.GO_nil E.GO_func E.GOs_nil E.GOs_cons E.GPs_nil E.GPs_cons E.RW_nil E.RW_cons E.dstAt_0 E.dstAt_s E.keepL_nil E.keepL_s E.keepL_k E.rmN_nil E.rmN_cons E.memN_nil E.memN_cons E.memK_nil E.memK_cons E.ovl_nil E.ovl_kk E.ovl_sk E.ovl_ks E.ovl_ss ofL_s ofL_sk ofL_ks ofL_k ofL_nil E.CO_tmp E.CO_bool
attribute [local go_sem] E.RM_nil E.RM_cons E.kd_k E.sbr_eq E.s3_nil E.s3_s E.s3_k E.vr_c E.vr_a E.vr_p E.vr_q E.vr_t E.vr_f E.vr_u E.cr_r E.cr_v E.cr_b E.cr_n E.cr_u E.crs_nil E.crs_cons E.renK_nil E.renK_cons keysVs V.keys C.keys keysCs E.RG_nil E.RG_cons E.GV_v E.GB_true E.GB_false E.GX_b E.GG_t E.GG_f E.GG_u E.GU_some E.IX_0 E.IX_s E.CX_s E.FR_none E.EN_e E.GVB_b E.b_boolM E.b_nilM E.b_strM E.b_aggM
attribute [local go_sem] List.cons_append List.nil_append List.append_nil List.length_cons List.length_nil List.length_map List.length_append callM E.argsH_nil E.argsH_cons E.argH_c E.argH_a E.argH_f E.argH_p ptrH_s E.cellsH_nil E.cellsH_cons E.cellH_v E.cellH_b E.cellH_n E.cellH_nt E.cellH_u E.cellH_rt E.cellH_rf capsA capA callable backs backT resVs resV resC tupV lenV intV boolV getE getO entryL entryKs A.ts entryV entryC entryCs entryCap List.map_cons List.map_nil E.cut_n E.cut_r E.cutM plainL A.lastOK T.lastOK Bool.false_or A.capOK szEs szE szT SZ whole toB toC List.drop_zero List.take_zero List.take_succ_cons List.drop_succ_cons resultsM resultM outM outM1 convs conv finAs finA finT finTs Int.toNat_natCast A.plain T.plain List.isEmpty_nil List.isEmpty_cons Bool.or_true Bool.true_or Bool.and_self List.getElem?_cons_zero List.getElem?_cons_succ Option.bind_some Option.bind_none Option.bind Nat.zero_add Nat.add_zero OWN BOR ONE SCAL DE ETA E.take_rest Int.toNat_zero E.take_map E.drop_map E.take_len1 List.take_length E.app_map Int.natCast_zero Int.sub_zero Int.toNat_sub partCells V.cells convsL appendM srcM E.scalEs_nil E.scalEs_cons E.oneEs_nil E.oneEs_cons List.all_cons List.all_nil T.one Bool.and_true gone ownEs ownE ownT borEs borE borT setRow splice List.set_cons_zero List.set_cons_succ optI getOpt sliceM ptrTo app_ofL T.isV Value.oneCell' fillC zeroC spliceC allV eqVs eqV minV maxV setAt setCell holed List.dropLast List.getLast?_singleton Option.getD_some Option.isSome_some Option.isSome_none Bool.and_false Bool.true_and Bool.false_and Option.map_some Option.map_none false_or true_or or_true rowAt cellAt E.constV_nil E.constV_int E.constV_bool E.constV_str E.setCell_set E.setCell_len setRow setAt List.dropLast_cons_cons List.dropLast_singleton List.getLast?_cons_cons
attribute [local go_sem_proc ↓] reduceIte
attribute [local go_sem_proc] Nat.reduceEqDiff reduceCtorEq Nat.reduceAdd Nat.reduceMul
attribute [local irreducible] E.argsH E.argH E.cellsH E.cellH E.GV E.GB E.GX E.GG E.GU E.IX E.CX E.RW E.FR E.EN E.CALL E.GO E.GOs E.GPs E.GVB E.KD E.RM E.RG E.CO E.WQ E.EV E.SQ E.BL E.LP E.FK E.S3 E.RK E.NEXT E.NQ E.INDEP
section
attribute [local go_sem] mdG_eq mdM toNat_pred setI List.length_set
theorem insSort_c (l : List Int) (hn : l.length ≤ 12) : Fn Go.Proofs.Tryz.prog 175 [.c (.s true 1 (l.map eInt)), .c (.v (vi 0)), .c (.v (vi l.length))] [.c (.s true 1 ((srt l).map eInt)), .c .d, .c .d] [] := by
  refine E.Fn.ev (n := 49) mdG false mix Go.Proofs.Tryz.func175 rfl (by simp [Go.Proofs.Tryz.f175]) Go.Proofs.Tryz.ntmps175 (by simp) (by kernel_rfl) (rs := []) (tys := []) rfl rfl (by simp [finOK, A.ts, OWN, ownE, ownT]) (by simp [resOK, A.ts, OWN, ownE, ownT, DE]) ?_
  simp only [go_sem]
  repeat' (first
    | with_reducible rfl
    | simp only [IJS]
    | (refine E.CALL.use (less_c _ _) ?_ <;> (try simp only [go_sem]))
    | (refine E.GB.use (fun h => ?_) (fun h => ?_) <;> (simp only [go_sem, h]) <;> (try simp only [HFS] at h))
    | exact E.INDEP.mk2 (by kernel_rfl)
    | exact E.RK.mk (by kernel_rfl)
    | (refine E.IX_map ?_ (fun hx => ?_); rotate_left; simp only [go_sem])
    | (refine E.loopR (ι := List Int × Nat) 1 rfl (fun ⟨d, i⟩ => [(.s 6, .v (.c (.v (vi i)))), (.k (0, 0), .e ⟨0, 1, d.map eInt⟩)]) [0, 1, 2] [(0, 0)] [] (fun ⟨d, i⟩ => l.length - i) (fun ⟨d, i⟩ => d.Perm l ∧ d.length = l.length ∧ 1 ≤ i ∧ (i ≤ l.length ∨ i = 1) ∧ (∀ a b, a < b → b < i → b < l.length → at' d a ≤ at' d b)) mix (by kernel_rfl) (l, 1) ?_ ?_ (fun ⟨d, i⟩ ⟨hp, hdl, h1i, hil, hR⟩ => ?_); all_goals (try simp (maxSteps := 900000) only [go_sem]); all_goals (try dsimp only at hp hdl h1i hil hR))
    | (refine E.NEXT.use [] (d2, i + 1) ?_ ?_ ?_; rotate_left 2; focus (simp (maxSteps := 900000) only [go_sem]; (repeat' (first | with_reducible rfl | exact E.RK.mk (by kernel_rfl) | apply And.intro | (push_cast; with_reducible rfl) | (refine E.int_c ?_; omega) | (simp only [go_sem]; done) | (rw [List.map_append]; rfl) | (simp; done) | (simp only [*]; done) | (rfl; done) | fail)); done))
    | (refine E.loopR (ι := List Int × Nat) 4 rfl (fun ⟨d2, j⟩ => [(.s 7, .v (.c (.v (vi j)))), (.k (0, 0), .e ⟨0, 1, d2.map eInt⟩)]) [0, 1, 2, 6, 10, 11, 12, 13, 14, 15] [(0, 0)] [] (fun ⟨d2, j⟩ => j) (fun ⟨d2, j⟩ => d2.Perm l ∧ d2.length = l.length ∧ j ≤ i ∧ InsI d2 i j) mix (by kernel_rfl) (d, i) ?_ ?_ (fun ⟨d2, j⟩ ⟨hp2, hd2, hji, hI⟩ => ?_); all_goals (try simp (maxSteps := 900000) only [go_sem]); all_goals (try dsimp only at hp2 hd2 hji hI))
    | (refine E.NEXT.use [] (swp d2 j, j - 1) ?_ ?_ ?_; rotate_left 2; focus (simp (maxSteps := 900000) only [go_sem]; (repeat' (first | with_reducible rfl | exact E.RK.mk (by kernel_rfl) | apply And.intro | (push_cast; with_reducible rfl) | (refine E.int_c ?_; omega) | (simp only [go_sem]; done) | (rw [List.map_append]; rfl) | (simp; done) | (simp only [*]; done) | (rfl; done) | fail)); done))
    | apply And.intro
    | omega
    | (simp only [List.length_take, List.length_drop, List.length_append, List.length_set, List.length_cons, List.length_nil]; omega)
    | (push_cast; with_reducible rfl)
    | refine congrArg (List.map _) ?_
    | (exact InsI.start fun a b h1 h2 => hR a b h1 h2 (by omega); done)
    | (rw [swp_len]; assumption; done)
    | (exact (swp_perm (by omega) (by omega)).trans hp2; done)
    | (refine hI.step (by omega) (by omega) (by omega) (by assumption); done)
    | (rw [srt_of hp (srt_of_at fun a b h1 h2 => hR a b h1 (by omega) (by omega))]; done)
    | (intro a b h1 h2 h3; exact hI.done (.inr (by assumption)) a b h1 (by omega); done)
    | (intro a b h1 h2 h3; exact hI.done (.inl (by omega)) a b h1 (by omega); done)
    | fail)
theorem pdq_c  (l : List Int) (lim : Int) (hn : l.length ≤ 12) : Fn Go.Proofs.Tryz.prog 173 [.c (.s true 1 ((l).map eInt)), .c (.v (vi 0)), .c (.v (vi l.length)), .c (.v (vi lim))] [.c (.s true 1 ((srt l).map eInt)), .c .d, .c .d, .c .d] [] := by
  refine E.Fn.ev (n := 134) mdG false mix Go.Proofs.Tryz.func173 rfl (by simp [Go.Proofs.Tryz.f173]) Go.Proofs.Tryz.ntmps173 (by simp) (by kernel_rfl) (rs := []) (tys := []) rfl rfl (by simp [finOK, A.ts, OWN, ownE, ownT]) (by simp [resOK, A.ts, OWN, ownE, ownT, DE]) ?_
  simp only [go_sem]
  repeat' (first
    | simp only [IJS]
    | (refine E.CALL.use (insSort_c _ ?_) ?_ <;> (try simp only [go_sem]))
    | (refine E.GB.use (fun h => ?_) (fun h => ?_) <;> (try (exfalso; simp only [HFS] at h; omega)) <;> (simp only [go_sem, h]) <;> (try simp only [HFS] at h))
    | exact E.RK.mk (by kernel_rfl)
    | (refine E.loopR (ι := Unit) 2 rfl (fun u => [(.s 8, .v (.c (.v (.bool true)))), (.s 9, .v (.c (.v (.bool true)))), (.s 1, .v (.c (.v (vi 0)))), (.s 2, .v (.c (.v (vi l.length)))), (.s 3, .v (.c (.v (vi lim))))]) [0] [] [] (fun u => 0) (fun u => 0 = 0 ∧ 0 = 0) mix (by kernel_rfl) () ?_ ?_ (fun u ⟨hu, hu2⟩ => ?_); all_goals (try simp (maxSteps := 900000) only [go_sem]); all_goals (try dsimp only at hu hu2))
    | apply And.intro
    | omega
    | (rw [srt_len]; done)
    | fail)
theorem sort_c (l : List Int) (hn : l.length ≤ 12) : Fn Go.Proofs.Tryz.prog 170 [.c (.s true 1 (l.map eInt))] [.c (.s true 1 ((srt l).map eInt))] [] := by
  refine E.Fn.ev (n := 11) mdG false mix Go.Proofs.Tryz.func170 rfl (by simp [Go.Proofs.Tryz.f170]) Go.Proofs.Tryz.ntmps170 (by simp) (by kernel_rfl) (rs := []) (tys := []) rfl rfl (by simp [finOK, A.ts, OWN, ownE, ownT]) (by simp [resOK, A.ts, OWN, ownE, ownT, DE]) ?_
  simp only [go_sem]
  repeat' (first
    | simp only [IJS]
    | (refine E.CALL.use (bitsLen_c _ ?_ ?_) ?_ <;> (try simp only [go_sem]))
    | (refine E.CALL.use (pdq_c _ _ ?_) ?_ <;> (try simp only [go_sem]))
    | omega
    | (rw [srt_len]; done)
    | (rw [wrap_u l.length (by omega)]; omega; done)
    | fail)
theorem clone_c (l : List Int) (hl : l.length ≤ 1048576) : Fn Go.Proofs.Tryz.prog 96 [.c (.s false 1 (l.map eInt))] [.c .d] [.c (.s true 1 ((l).map eInt))] := by
  refine E.Fn.ev (n := 8) mdG false mix Go.Proofs.Tryz.func96 rfl (by simp [Go.Proofs.Tryz.f96]) Go.Proofs.Tryz.ntmps96 (by simp) (by kernel_rfl) (rs := [.tmp 2]) (tys := [23]) rfl rfl (by simp [finOK, A.ts, OWN, ownE, ownT]) (by simp [resOK, A.ts, OWN, ownE, ownT, DE]) ?_
  simp only [go_sem]
  repeat' (first
    | simp only [IJS]
    | (refine E.GB.use (fun h => ?_) (fun h => ?_) <;> (simp only [go_sem, h]) <;> (try simp only [HFS] at h))
    | (refine E.NQ.use (fun b hb => ?_); simp only [go_sem])
    | apply And.intro
    | omega
    | (exact (hb h).symm; done)
    | fail)
end
section
attribute [local go_sem] mdG_eq mdM toNat_pred setI List.length_set
theorem putsGo_len : ∀ (l s : List Int), (l.foldl putI s).length ≤ s.length + l.length
  | [], s => by simp
  | x :: l, s => by have := putsGo_len l (putI s x); have := putI_len s x; simp only [List.foldl_cons, List.length_cons]; omega
theorem puts_len (l : List Int) : (puts l).length ≤ l.length := by have := putsGo_len l []; simpa [puts] using this
theorem without_len (a b : List Int) : (without a b).length ≤ a.length := by
  rw [without_eq]; exact Nat.le_trans (List.length_filter_le _ _) (puts_len a)
theorem asc_c (l : List Int) (hn : l.length ≤ 12) : Fn Go.Proofs.Tryz.prog 164 [.c (.s false 1 (l.map eInt))] [.c .d] [.c (.s true 1 ((puts l).map eInt))] := by
  refine E.Fn.ev (n := 10) mdG false mix Go.Proofs.Tryz.func164 rfl (by simp [Go.Proofs.Tryz.f164]) Go.Proofs.Tryz.ntmps164 (by simp) (by kernel_rfl) (rs := [.tmp 2]) (tys := [23]) rfl rfl (by simp [finOK, A.ts, OWN, ownE, ownT]) (by simp [resOK, A.ts, OWN, ownE, ownT, DE]) ?_
  simp only [go_sem]
  repeat' (first
    | simp only [IJS]
    | (refine E.CALL.use (clone_c _ ?_) ?_ <;> (try simp only [go_sem]))
    | (refine E.CALL.use (sort_c _ ?_) ?_ <;> (try simp only [go_sem]))
    | (refine E.CALL.use (compact_c _ ?_) ?_ <;> (try simp only [go_sem]))
    | apply And.intro
    | omega
    | refine congrArg (List.map _) ?_
    | (rw [srt_len]; done)
    | (rw [srt_len]; omega; done)
    | (rw [comp_srt]; done)
    | fail)
theorem inB_c  (x : Int) (b : List Int) (hb : b.length ≤ 1048576) : Fn Go.Proofs.Tryz.prog 165 [.c (.v (vi x)), .q 1 [[.s false 1 (b.map eInt)]] 0 0] [.c .d, .q 1 [[.s false 1 (b.map eInt)]] 0 0] [.c (.v (.bool (b.contains x)))] := by
  refine E.Fn.ev (n := 7) mdG false mix Go.Proofs.Tryz.func165 rfl (by simp [Go.Proofs.Tryz.f165]) Go.Proofs.Tryz.ntmps165 (by simp) (by kernel_rfl) (rs := [.tmp 3]) (tys := [4]) rfl rfl (by simp [finOK, A.ts, OWN, ownE, ownT]) (by simp [resOK, A.ts, OWN, ownE, ownT, DE]) ?_
  simp only [go_sem]
  repeat' (first
    | simp only [IJS]
    | (refine E.CALL.use (has_i _ _ ?_) ?_ <;> (try simp only [go_sem]))
    | apply And.intro
    | omega
    | fail)
theorem without_i (a : List Int) (b : List Int) (ha : a.length ≤ 12) (hb : b.length ≤ 1048576) : Fn Go.Proofs.Tryz.prog 150 [.c (.s false 1 (a.map eInt)), .c (.s false 1 (b.map eInt))] [.c .d, .c .d] [.c (.s true 1 ((without a b).map eInt))] := by
  refine E.Fn.ev (n := 9) mdG false mix Go.Proofs.Tryz.func150 rfl (by simp [Go.Proofs.Tryz.f150]) Go.Proofs.Tryz.ntmps150 (by simp) (by kernel_rfl) (rs := [.tmp 4]) (tys := [23]) rfl rfl (by simp [finOK, A.ts, OWN, ownE, ownT]) (by simp [resOK, A.ts, OWN, ownE, ownT, DE]) ?_
  simp only [go_sem]
  repeat' (first
    | simp only [IJS]
    | (refine E.CALL.use (delF_I1 (puts a) (fun x => b.contains x) 165 1 [[.s false 1 (b.map eInt)]] ?_ (fun x _ => inB_c x b hb)) ?_ <;> (try simp only [go_sem]))
    | (refine E.CALL.use (asc_c _ ?_) ?_ <;> (try simp only [go_sem]))
    | apply And.intro
    | omega
    | (push_cast; with_reducible rfl)
    | refine congrArg (List.map _) ?_
    | (have := puts_len a; omega; done)
    | (rw [without_eq]; done)
    | fail)
theorem common_i (a : List Int) (b : List Int) (ha : a.length ≤ 12) (hb : b.length ≤ 1048576) : Fn Go.Proofs.Tryz.prog 128 [.c (.s false 1 (a.map eInt)), .c (.s false 1 (b.map eInt))] [.c .d, .c .d] [.c (.s true 1 ((common a b).map eInt))] := by
  refine E.Fn.ev (n := 10) mdG false mix Go.Proofs.Tryz.func128 rfl (by simp [Go.Proofs.Tryz.f128]) Go.Proofs.Tryz.ntmps128 (by simp) (by kernel_rfl) (rs := [.tmp 4]) (tys := [23]) rfl rfl (by simp [finOK, A.ts, OWN, ownE, ownT]) (by simp [resOK, A.ts, OWN, ownE, ownT, DE]) ?_
  simp only [go_sem]
  repeat' (first
    | simp only [IJS]
    | (refine E.CALL.use (without_i _ _ ?_ ?_) ?_ <;> (try simp only [go_sem]))
    | apply And.intro
    | omega
    | refine congrArg (List.map _) ?_
    | (have := without_len a b; omega; done)
    | (rw [common_eq]; done)
    | fail)
end
section
attribute [local go_sem] mdM toNat_pred
theorem isML_s (m : MLog) (hml : m.confs.length ≤ 1048576) (hm : ∀ c ∈ m.confs, c.reps.length ≤ 1048576 ∧ c.wits.length ≤ 1048576) : Fn Go.Proofs.Tryz.prog 152 [.a (eMLog false m)] [.a [.d, .d]] [.c (.v (.bool (isML m)))] := by
  refine E.Fn.ev (n := 35) mdM false mix Go.Proofs.Tryz.func152 rfl (by simp [Go.Proofs.Tryz.f152]) Go.Proofs.Tryz.ntmps152 (by simp) (by kernel_rfl) (rs := [.tmp 2]) (tys := [4]) rfl rfl (by simp [finOK, A.ts, OWN, ownE, ownT]) (by simp [resOK, A.ts, OWN, ownE, ownT, DE]) ?_
  simp only [go_sem]
  repeat' (first
    | simp only [IJS]
    | (refine E.CALL.use (validConf_s _ ?_ ?_) ?_ <;> (try simp only [go_sem]))
    | (refine E.CALL.use (in_s _ _ _) ?_ <;> (try simp only [go_sem]))
    | (refine E.GB.use (fun h => ?_) (fun h => ?_) <;> (simp only [go_sem, h]) <;> (try simp only [HFS] at h))
    | exact E.RK.mk (by kernel_rfl)
    | (refine E.IX_map ?_ (fun hx => ?_); rotate_left; simp only [go_sem])
    | (refine E.loopR (ι := Nat) 2 rfl (fun i => [(.s 3, .v (.c (.v (vi i))))]) [1, 29, 30, 31, 32, 33, 34] [] [] (fun i => (m.confs).length - i) (fun i => i ≤ (m.confs).length ∧ (confsGo i (m.confs.drop i) && inR m.act 0 m.confs.length) = isML m) mix (by kernel_rfl) 0 ?_ ?_ (fun i ⟨hi, hR⟩ => ?_); all_goals (try simp (maxSteps := 900000) only [go_sem]); all_goals (try dsimp only at hi hR))
    | (refine E.NEXT.use [] (i + 1) ?_ ?_ ?_; rotate_left 2; focus (simp (maxSteps := 900000) only [go_sem]; (repeat' (first | with_reducible rfl | exact E.RK.mk (by kernel_rfl) | apply And.intro | (push_cast; with_reducible rfl) | (refine E.int_c ?_; omega) | (simp only [go_sem]; done) | (rw [List.map_append]; rfl) | (simp; done) | (simp only [*]; done) | fail)); done))
    | apply And.intro
    | omega
    | (exact (hm _ (E.at_mem (by omega))).1; done)
    | (exact (hm _ (E.at_mem (by omega))).2; done)
    | (rw [drop_at (l := m.confs) (i := i) (by omega)] at hR; rw [← hR]; simp [confsGo, *]; done)
    | (rw [E.drop_end (l := m.confs) (i := i) (by omega)] at hR; rw [← hR]; simp [confsGo]; done)
    | (rfl; done)
    | fail)
theorem copyC_s (c : Conf) (h1 : c.reps.length ≤ 1048576) (h2 : c.wits.length ≤ 1048576) : Fn Go.Proofs.Tryz.prog 80 [.a (eConf false c)] [.a [.d, .d, .d, .d]] [.a (eConf true (c))] := by
  refine E.Fn.ev (n := 16) mdM false mix Go.Proofs.Tryz.func80 rfl (by simp [Go.Proofs.Tryz.f80]) Go.Proofs.Tryz.ntmps80 (by simp) (by kernel_rfl) (rs := [.cell 2 50]) (tys := [50]) rfl rfl (by simp [finOK, A.ts, OWN, ownE, ownT]) (by simp [resOK, A.ts, OWN, ownE, ownT, DE]) ?_
  simp only [go_sem]
  repeat' (first
    | simp only [IJS]
    | exact E.INDEP.mk2 (by kernel_rfl)
    | apply And.intro
    | omega
    | fail)
theorem copyL_s (l : List LEnt) (hl : l.length ≤ 1048576) : Fn Go.Proofs.Tryz.prog 36 [.c (.s false 7 (l.map eLEnt))] [.c .d] [.c (.s true 7 ((l).map eLEnt))] := by
  refine E.Fn.ev (n := 6) mdM false mix Go.Proofs.Tryz.func36 rfl (by simp [Go.Proofs.Tryz.f36]) Go.Proofs.Tryz.ntmps36 (by simp) (by kernel_rfl) (rs := [.tmp 2]) (tys := [51]) rfl rfl (by simp [finOK, A.ts, OWN, ownE, ownT]) (by simp [resOK, A.ts, OWN, ownE, ownT, DE]) ?_
  simp only [go_sem]
  repeat' (first
    | simp only [IJS]
    | apply And.intro
    | omega
    | fail)
theorem confAt_s (m : MLog) (e : Int) (hml : m.confs.length ≤ 1048576) (hm : ∀ c ∈ m.confs, c.reps.length ≤ 1048576 ∧ c.wits.length ≤ 1048576) : Fn Go.Proofs.Tryz.prog 155 [.a (eMLog false m), .c (.v (vi e))] [.a [.d, .d], .c .d] [.a (eConf true ((confAt m e).1)), .c (.v (.bool ((confAt m e).2)))] := by
  refine E.Fn.ev (n := 25) mdM false mix Go.Proofs.Tryz.func155 rfl (by simp [Go.Proofs.Tryz.f155]) Go.Proofs.Tryz.ntmps155 (by simp) (by kernel_rfl) (rs := [.cell 4 50, .tmp 5]) (tys := [50, 4]) rfl rfl (by simp [finOK, A.ts, OWN, ownE, ownT]) (by simp [resOK, A.ts, OWN, ownE, ownT, DE]) ?_
  simp only [go_sem]
  repeat' (first
    | simp only [IJS]
    | (refine E.CALL.use (isML_s _ ?_ ?_) ?_ <;> (try simp only [go_sem]))
    | (refine E.CALL.use (in_s _ _ _) ?_ <;> (try simp only [go_sem]))
    | (refine E.CALL.use (copyC_s _ ?_ ?_) ?_ <;> (try simp only [go_sem]))
    | (refine E.GB.use (fun h => ?_) (fun h => ?_) <;> (simp only [go_sem, h]) <;> (try simp only [HFS] at h))
    | (refine E.IX_map ?_ (fun hx => ?_); rotate_left; simp only [go_sem])
    | apply And.intro
    | omega
    | refine congrArg (List.map _) ?_
    | (have q := inR_of (x := e) (by assumption); omega; done)
    | (have q := inR_of (x := e) (by assumption); exact (hm _ (E.at_mem (by omega))).1; done)
    | (have q := inR_of (x := e) (by assumption); exact (hm _ (E.at_mem (by omega))).2; done)
    | (simp [confAt, noConf, *]; done)
    | fail)
end
section
attribute [local go_sem] mdM toNat_pred
theorem copyM_s (m : MLog) (hml : m.confs.length ≤ 1048576) (hm : ∀ c ∈ m.confs, c.reps.length ≤ 1048576 ∧ c.wits.length ≤ 1048576) : Fn Go.Proofs.Tryz.prog 89 [.a (eMLog false m)] [.a [.d, .d]] [.a (eMLog true (m))] := by
  refine E.Fn.ev (n := 29) mdM false mix Go.Proofs.Tryz.func89 rfl (by simp [Go.Proofs.Tryz.f89]) Go.Proofs.Tryz.ntmps89 (by simp) (by kernel_rfl) (rs := [.cell 2 36]) (tys := [36]) rfl rfl (by simp [finOK, A.ts, OWN, ownE, ownT]) (by simp [resOK, A.ts, OWN, ownE, ownT, DE]) ?_
  simp only [go_sem]
  repeat' (first
    | simp only [IJS]
    | (refine E.CALL.use (copyC_s _ ?_ ?_) ?_ <;> (try simp only [go_sem]))
    | (refine E.GB.use (fun h => ?_) (fun h => ?_) <;> (simp only [go_sem, h]) <;> (try simp only [HFS] at h))
    | exact E.RK.mk (by kernel_rfl)
    | (refine E.IX_map ?_ (fun hx => ?_); rotate_left; simp only [go_sem])
    | (refine E.loopR (ι := Nat × Nat) 3 rfl (fun ⟨i, v⟩ => [(.s 4, .v (.c (.v (vi i)))), (.k (3, 0), .e ⟨v, 2, [[.s true 4 ((m.confs.take i).map (eConf true)), .v (vi m.act)]]⟩)]) [1, 2, 3, 28] [(3, 0)] [] (fun ⟨i, v⟩ => m.confs.length - i) (fun ⟨i, v⟩ => i ≤ m.confs.length ∧ v = v) mix (by kernel_rfl) (0, 1) ?_ ?_ (fun ⟨i, v⟩ ⟨hi, hv⟩ => ?_); all_goals (try simp (maxSteps := 900000) only [go_sem]); all_goals (try dsimp only at hi hv))
    | (refine E.NEXT.use [] (i + 1, v + 1) ?_ ?_ ?_; rotate_left 2; focus (simp (maxSteps := 900000) only [go_sem]; (repeat' (first | with_reducible rfl | exact E.RK.mk (by kernel_rfl) | apply And.intro | (push_cast; with_reducible rfl) | (refine E.int_c ?_; omega) | (simp only [go_sem]; done) | (rw [List.map_append]; rfl) | (simp; done) | (simp only [*]; done) | (rw [E.take_at, List.map_append] <;> first | rfl | omega; done) | fail)); done))
    | apply And.intro
    | omega
    | (simp only [List.length_take, List.length_drop, List.length_append, List.length_set, List.length_cons, List.length_nil]; omega)
    | refine congrArg (List.map _) ?_
    | (exact (hm _ (E.at_mem (by omega))).1; done)
    | (exact (hm _ (E.at_mem (by omega))).2; done)
    | (have e : i = m.confs.length := (by omega); subst e; simp; done)
    | fail)
theorem isLease_no {l : Lse} (h : ((l.epoch == 0) && ((l.holder == 0) && (l.til == 0))) = true) : l = noLse := by
  cases l; simp_all [noLse]
theorem isLease_ne {l : Lse} (h : ((l.epoch == 0) && ((l.holder == 0) && (l.til == 0))) = false) : l ≠ noLse := by
  rintro rfl; simp [noLse] at h
theorem isLease_s (l : Lse) : Fn Go.Proofs.Tryz.prog 153 [.a (eLse l)] [.a [.d, .d, .d]] [.c (.v (.bool (isLease l)))] := by
  refine E.Fn.ev (n := 19) mdM false mix Go.Proofs.Tryz.func153 rfl (by simp [Go.Proofs.Tryz.f153]) Go.Proofs.Tryz.ntmps153 (by simp) (by kernel_rfl) (rs := [.tmp 2]) (tys := [4]) rfl rfl (by simp [finOK, A.ts, OWN, ownE, ownT]) (by simp [resOK, A.ts, OWN, ownE, ownT, DE]) ?_
  simp only [go_sem]
  repeat' (first
    | simp only [IJS]
    | (refine E.CALL.use (in_s _ _ _) ?_ <;> (try simp only [go_sem]))
    | (refine E.GB.use (fun h => ?_) (fun h => ?_) <;> (simp only [go_sem, h]) <;> (try simp only [HFS] at h))
    | apply And.intro
    | omega
    | (have q := isLease_no h; subst q; simp [isLease]; done)
    | (have := isLease_ne (by assumption); simp_all [isLease]; done)
    | fail)
theorem copyS_s (s : Srv) (h1 : s.conf.reps.length ≤ 1048576) (h2 : s.conf.wits.length ≤ 1048576) (h3 : s.log.length ≤ 1048576) (h4 : s.learned.length ≤ 1048576) : Fn Go.Proofs.Tryz.prog 79 [.a (eSrv false s)] [.a [.d, .d, .d, .d, .d, .d, .d, .d, .d, .d, .d, .d]] [.a (eSrv true (s))] := by
  refine E.Fn.ev (n := 18) mdM false mix Go.Proofs.Tryz.func79 rfl (by simp [Go.Proofs.Tryz.f79]) Go.Proofs.Tryz.ntmps79 (by simp) (by kernel_rfl) (rs := [.cell 2 53]) (tys := [53]) rfl rfl (by simp [finOK, A.ts, OWN, ownE, ownT]) (by simp [resOK, A.ts, OWN, ownE, ownT, DE]) ?_
  simp only [go_sem]
  repeat' (first
    | simp only [IJS]
    | (refine E.CALL.use (copyC_s _ ?_ ?_) ?_ <;> (try simp only [go_sem]))
    | (refine E.CALL.use (copyL_s _ ?_) ?_ <;> (try simp only [go_sem]))
    | apply And.intro
    | omega
    | fail)
theorem role_cases (c : Conf) (id : Int) : roleOf c id = 0 ∨ roleOf c id = 1 ∨ roleOf c id = 2 ∨ roleOf c id = 3 := by
  unfold roleOf; repeat' split
  all_goals simp
theorem validSrv_s (s : Srv) (id : Int) (h1 : s.conf.reps.length ≤ 1048576) (h2 : s.conf.wits.length ≤ 1048576) (h3 : s.log.length ≤ 1048576) (h4 : s.learned.length ≤ 1048576) : Fn Go.Proofs.Tryz.prog 25 [.a (eSrv false s), .c (.v (vi id))] [.a [.d, .d, .d, .d, .d, .d, .d, .d, .d, .d, .d, .d], .c .d] [.c (.v (.bool (validSrv s id)))] := by
  refine E.Fn.ev (n := 118) mdM false mix Go.Proofs.Tryz.func25 rfl (by simp [Go.Proofs.Tryz.f25]) Go.Proofs.Tryz.ntmps25 (by simp) (by kernel_rfl) (rs := [.tmp 4]) (tys := [4]) rfl rfl (by simp [finOK, A.ts, OWN, ownE, ownT]) (by simp [resOK, A.ts, OWN, ownE, ownT, DE]) ?_
  simp only [go_sem]
  repeat' (first
    | simp only [IJS]
    | (refine E.CALL.use (in_s _ _ _) ?_ <;> (try simp only [go_sem]))
    | (refine E.CALL.use (isLog_s _ ?_) ?_ <;> (try simp only [go_sem]))
    | (refine E.CALL.use (none_s _ ?_ ?_) ?_ <;> (try simp only [go_sem]))
    | (refine E.CALL.use (lastE_s _ ?_) ?_ <;> (try simp only [go_sem]))
    | (refine E.CALL.use (role_s _ _ ?_ ?_) ?_ <;> (try simp only [go_sem]))
    | (refine E.GB.use (fun h => ?_) (fun h => ?_) <;> (simp only [go_sem, h]) <;> (try simp only [HFS] at h))
    | exact E.INDEP.mk2 (by kernel_rfl)
    | apply And.intro
    | omega
    | (have q1 := inR_of (x := s.first) (by assumption); omega; done)
    | (simp_all [validSrv]; done)
    | (have q1 := inR_of (x := s.first) (by assumption); have q2 := inR_no h; have h9 : decide (s.first + s.log.length ≤ 16) = false := (by simp; omega); simp [validSrv, h9]; done)
    | (have h9 : decide (s.conf.epoch ≤ s.epoch) = false := (by simp; omega); simp [validSrv, h9, *]; done)
    | (have h9 : decide (lastE s.log ≤ s.conf.epoch) = false := (by simp; omega); simp [validSrv, h9, *]; done)
    | (have h9 : decide ((s.log.length : Int) ≤ 3) = false := (by simp; omega); simp [validSrv, isTail, h9, *]; done)
    | (have q2 := inR_of (x := s.first + s.log.length) (by assumption); have h8 : decide (s.first + s.log.length ≤ 16) = true := (by simp; omega); have q3 := role_cases s.conf id; simp [validSrv, h8, *]; rcases q3 with q3 | q3 | q3 | q3 <;> simp_all; done)
    | (have q2 := inR_of (x := s.first + s.log.length) (by assumption); have h8 : s.first + s.log.length ≤ 16 := (by omega); have q1 := inR_of (x := s.first) (by assumption); have h9 : inR s.first 0 (16 - s.log.length) = true := (by simp [inR]; omega); simp_all [validSrv, isTail]; done)
    | fail)
end
section
attribute [local go_sem] mdM toNat_pred
theorem copyU_s (c : Clu) (hs : ∀ s ∈ c.srvs, (s.conf.reps.length ≤ 1048576 ∧ s.conf.wits.length ≤ 1048576) ∧ s.log.length ≤ 1048576 ∧ s.learned.length ≤ 1048576) (hsl : c.srvs.length ≤ 1048576) (hsd : c.sides.length ≤ 1048576) (hml : c.mast.confs.length ≤ 1048576) (hm : ∀ x ∈ c.mast.confs, x.reps.length ≤ 1048576 ∧ x.wits.length ≤ 1048576) (hpl : c.plcs.length ≤ 1048576) : Fn Go.Proofs.Tryz.prog 32 [.a (eClu false c)] [.a [.d, .d, .d, .d, .d, .d, .d, .d, .d, .d]] [.a (eClu true (c))] := by
  refine E.Fn.ev (n := 42) mdM false mix Go.Proofs.Tryz.func32 rfl (by simp [Go.Proofs.Tryz.f32]) Go.Proofs.Tryz.ntmps32 (by simp) (by kernel_rfl) (rs := [.cell 2 40]) (tys := [40]) rfl rfl (by simp [finOK, A.ts, OWN, ownE, ownT]) (by simp [resOK, A.ts, OWN, ownE, ownT, DE]) ?_
  simp only [go_sem]
  repeat' (first
    | simp only [IJS]
    | (refine E.CALL.use (copyS_s _ ?_ ?_ ?_ ?_) ?_ <;> (try simp only [go_sem]))
    | (refine E.CALL.use (copyM_s _ ?_ ?_) ?_ <;> (try simp only [go_sem]))
    | (refine E.GB.use (fun h => ?_) (fun h => ?_) <;> (simp only [go_sem, h]) <;> (try simp only [HFS] at h))
    | exact E.RK.mk (by kernel_rfl)
    | (refine E.IX_map ?_ (fun hx => ?_); rotate_left; simp only [go_sem])
    | (refine E.loopR (ι := Nat × Nat) 4 rfl (fun ⟨i, v⟩ => [(.s 4, .v (.c (.v (vi i)))), (.k (3, 0), .e ⟨v, 10, [[.v (vi c.now), .s true 12 ((c.srvs.take i).map (eSrv true)), .s false 1 (c.sides.map eInt), .s false 4 (c.mast.confs.map (eConf false)), .v (vi c.mast.act), .v (vi c.mup), .v (vi c.lse.epoch), .v (vi c.lse.holder), .v (vi c.lse.til), .s false 3 (c.plcs.map ePlc)]]⟩)]) [1, 2, 3, 27, 28, 29, 30, 31, 32, 33, 34, 35, 36, 37, 38, 39, 40, 41] [(3, 0)] [] (fun ⟨i, v⟩ => c.srvs.length - i) (fun ⟨i, v⟩ => i ≤ c.srvs.length ∧ v = v) mix (by kernel_rfl) (0, 2) ?_ ?_ (fun ⟨i, v⟩ ⟨hi, hv⟩ => ?_); all_goals (try simp (maxSteps := 900000) only [go_sem]); all_goals (try dsimp only at hi hv))
    | (refine E.NEXT.use [] (i + 1, v + 1) ?_ ?_ ?_; rotate_left 2; focus (simp (maxSteps := 900000) only [go_sem]; (repeat' (first | with_reducible rfl | exact E.RK.mk (by kernel_rfl) | apply And.intro | (push_cast; with_reducible rfl) | (refine E.int_c ?_; omega) | (simp only [go_sem]; done) | (rw [List.map_append]; rfl) | (simp; done) | (simp only [*]; done) | (rw [E.take_at, List.map_append] <;> first | rfl | omega; done) | fail)); done))
    | apply And.intro
    | omega
    | (simp only [List.length_take, List.length_drop, List.length_append, List.length_set, List.length_cons, List.length_nil]; omega)
    | refine congrArg (List.map _) ?_
    | (exact (hs _ (E.at_mem (by omega))).1.1; done)
    | (exact (hs _ (E.at_mem (by omega))).1.2; done)
    | (exact (hs _ (E.at_mem (by omega))).2.1; done)
    | (exact (hs _ (E.at_mem (by omega))).2.2; done)
    | (rw [List.take_of_length_le (by omega)]; done)
    | fail)
theorem confAt_bd {m : MLog} {e : Int} (hm : ∀ x ∈ m.confs, x.reps.length ≤ 1048576 ∧ x.wits.length ≤ 1048576) : (confAt m e).1.reps.length ≤ 1048576 ∧ (confAt m e).1.wits.length ≤ 1048576 := by
  unfold confAt
  split
  · rename_i h
    simp only [Bool.and_eq_true, inR_iff] at h
    exact hm _ (E.at_mem (by omega))
  · exact ⟨Nat.zero_le _, Nat.zero_le _⟩
theorem validClu_s (c : Clu) (hs : ∀ s ∈ c.srvs, (s.conf.reps.length ≤ 1048576 ∧ s.conf.wits.length ≤ 1048576) ∧ s.log.length ≤ 1048576 ∧ s.learned.length ≤ 1048576) (hsl : c.srvs.length ≤ 1048576) (hsd : c.sides.length ≤ 1048576) (hml : c.mast.confs.length ≤ 1048576) (hm : ∀ x ∈ c.mast.confs, x.reps.length ≤ 1048576 ∧ x.wits.length ≤ 1048576) (hpl : c.plcs.length ≤ 1048576) : Fn Go.Proofs.Tryz.prog 132 [.a (eClu false c)] [.a [.d, .d, .d, .d, .d, .d, .d, .d, .d, .d]] [.c (.v (.bool (validClu c)))] := by
  refine E.Fn.ev (n := 123) mdM false mix Go.Proofs.Tryz.func132 rfl (by simp [Go.Proofs.Tryz.f132]) Go.Proofs.Tryz.ntmps132 (by simp) (by kernel_rfl) (rs := [.tmp 2]) (tys := [4]) rfl rfl (by simp [finOK, A.ts, OWN, ownE, ownT]) (by simp [resOK, A.ts, OWN, ownE, ownT, DE]) ?_
  simp only [go_sem]
  repeat' (first
    | simp only [IJS]
    | (refine E.CALL.use (in_s _ _ _) ?_ <;> (try simp only [go_sem]))
    | (refine E.CALL.use (areSides_s _ ?_) ?_ <;> (try simp only [go_sem]))
    | (refine E.CALL.use (isML_s _ ?_ ?_) ?_ <;> (try simp only [go_sem]))
    | (refine E.CALL.use (isLease_s _) ?_ <;> (try simp only [go_sem]))
    | (refine E.CALL.use (arePlc_s _ ?_) ?_ <;> (try simp only [go_sem]))
    | (refine E.CALL.use (validSrv_s _ _ ?_ ?_ ?_ ?_) ?_ <;> (try simp only [go_sem]))
    | (refine E.CALL.use (lastE_s _ ?_) ?_ <;> (try simp only [go_sem]))
    | (refine E.CALL.use (confAt_s _ _ ?_ ?_) ?_ <;> (try simp only [go_sem]))
    | (refine E.CALL.use (none_s _ ?_ ?_) ?_ <;> (try simp only [go_sem]))
    | (refine E.CALL.use (eqConf_s _ _ ?_ ?_ ?_ ?_) ?_ <;> (try simp only [go_sem]))
    | (refine E.GB.use (fun h => ?_) (fun h => ?_) <;> (simp only [go_sem, h]) <;> (try simp only [HFS] at h))
    | exact E.INDEP.mk2 (by kernel_rfl)
    | exact E.RK.mk (by kernel_rfl)
    | (refine E.IX_map ?_ (fun hx => ?_); rotate_left; simp only [go_sem])
    | (refine E.loopR (ι := Nat) 4 rfl (fun i => [(.s 3, .v (.c (.v (vi i))))]) [1] [] [] (fun i => (c.srvs).length - i) (fun i => i ≤ (c.srvs).length ∧ (inR c.now 0 999 && ((c.srvs.length : Int) == 5) && areSides c.sides && isML c.mast && isLease c.lse && arePlaces c.plcs && inR c.mup 0 3 && decide (c.lse.epoch ≤ c.mast.act) && srvsOK c i (c.srvs.drop i)) = validClu c) mix (by kernel_rfl) 0 ?_ ?_ (fun i ⟨hi, hR⟩ => ?_); all_goals (try simp (maxSteps := 900000) only [go_sem]); all_goals (try dsimp only at hi hR))
    | (refine E.NEXT.use [] (i + 1) ?_ ?_ ?_; rotate_left 2; focus (simp (maxSteps := 900000) only [go_sem]; (repeat' (first | with_reducible rfl | exact E.RK.mk (by kernel_rfl) | apply And.intro | (push_cast; with_reducible rfl) | (refine E.int_c ?_; omega) | (simp only [go_sem]; done) | (rw [List.map_append]; rfl) | (simp; done) | (simp only [*]; done) | fail)); done))
    | apply And.intro
    | omega
    | (exact (hs _ (E.at_mem (by omega))).1.1; done)
    | (exact (hs _ (E.at_mem (by omega))).1.2; done)
    | (exact (hs _ (E.at_mem (by omega))).2.1; done)
    | (exact (hs _ (E.at_mem (by omega))).2.2; done)
    | (exact (confAt_bd hm).1; done)
    | (exact (confAt_bd hm).2; done)
    | (rfl; done)
    | (rw [E.drop_end (l := c.srvs) (i := i) (by omega)] at hR; rw [← hR]; simp_all [srvsOK]; done)
    | (rw [drop_at (l := c.srvs) (i := i) (by omega)] at hR; rw [← hR]; simp_all [srvsOK]; done)
    | (rw [drop_at (l := c.srvs) (i := i) (by omega)] at hR; have h9 : decide ((at' c.srvs i).epoch ≤ c.mast.confs.length) = false := (by simp; omega); rw [← hR]; simp [srvsOK, h9]; done)
    | (rw [drop_at (l := c.srvs) (i := i) (by omega)] at hR; have h9 : decide (lastE (at' c.srvs i).learned ≤ c.mast.act) = false := (by simp; omega); rw [← hR]; simp [srvsOK, h9]; done)
    | (rw [drop_at (l := c.srvs) (i := i) (by omega)] at hR; have h9 : decide ((at' c.srvs i).conf.epoch ≤ c.mast.act) = false := (by simp; omega); rw [← hR]; simp [srvsOK, h9, *]; done)
    | (have h9 : decide (c.lse.epoch ≤ c.mast.act) = false := (by simp; omega); simp [validClu, h9]; done)
    | (simp_all [validClu]; done)
    | fail)
end
end Go.Abs

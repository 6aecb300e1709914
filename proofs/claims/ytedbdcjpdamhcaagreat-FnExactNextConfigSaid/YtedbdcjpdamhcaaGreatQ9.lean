/- Contracts of functions of the program, over the abstract machine, and facts for them. No condition. -/
import Derived.Test.YtedbdcjpdamhcaaGreatFacts
import Derived.Test.YtedbdcjpdamhcaaGreatPure19
import Derived.Test.YtedbdcjpdamhcaaGreatQ10
import Derived.Test.YtedbdcjpdamhcaaGreatQ11
import Derived.Test.YtedbdcjpdamhcaaGreatQ3
import Derived.Test.YtedbdcjpdamhcaaGreatQ4
import Derived.Test.YtedbdcjpdamhcaaGreatQ42
import Derived.Test.YtedbdcjpdamhcaaGreatQ8
set_option linter.unusedVariables false
set_option linter.unusedSimpArgs false
set_option linter.unnecessarySimpa false
set_option linter.constructorNameAsVariable false
set_option maxHeartbeats 4000000
set_option maxRecDepth 100000
namespace Go.Abs
open Go
attribute [local go_sem ↓] E.argsA_h E.wq_ret E.wq_req E.wq_bad E.wq_call E.wq_get E.wq_getO E.wq_getOs E.wq_getPs E.wq_fresh E.wq_anyNil E.wq_getR0 E.wq_getR E.wq_ixM E.wq_n E.wq_g E.wq_gn E.ev_skip E.ev_region E.ev_draw E.ev_seq E.ev_cond E.ev_block E.ev_exit E.ev_ret E.sq_n E.sq_e E.sq_r E.bl_n E.bl_e E.bl_r E.lp_n E.lp_e E.lp_r E.fk_n E.fk_r E.q_move E.q_assign E.q_pick E.q_bin E.q_binw E.q_un E.q_alloc E.q_box E.q_build E.q_buildS E.q_makeS E.q_load E.q_store E.q_nilCheck E.q_slice E.q_fieldAddr E.q_field E.q_indexAddr E.q_extract E.q_makeFunc E.q_call E.q_callT E.q_len E.q_append E.q_min E.q_max E.q_convert E.q_cap E.q_clear appendIM appendZM E.b_add E.b_sub E.b_mul E.b_eql E.b_neq E.b_lss E.b_leq E.b_gtr E.b_geq E.GO_tmp E.GO_int E.GO_bool E.GO_str E.GO_nil E.GO_func E.GOs_nil E.GOs_cons E.GPs_nil E.GPs_cons E.RW_nil E.RW_cons E.dstAt_0 E.dstAt_s E.keepL_nil E.keepL_s E.keepL_k E.rmN_nil E.rmN_cons E.memN_nil E.memN_cons E.memK_nil E.memK_cons E.ovl_nil E.ovl_kk E.ovl_sk E.ovl_ks E.ovl_ss ofL_s ofL_sk ofL_ks ofL_k ofL_nil E.CO_tmp E.CO_bool
attribute [local go_sem] E.RM_nil E.RM_cons E.kd_k E.sbr_eq E.s3_nil E.s3_s E.s3_k E.vr_c E.vr_a E.vr_p E.vr_q E.vr_t E.vr_f E.vr_u E.cr_r E.cr_v E.cr_b E.cr_n E.cr_u E.crs_nil E.crs_cons E.renK_nil E.renK_cons keysVs V.keys C.keys keysCs E.RG_nil E.RG_cons E.GV_v E.GB_true E.GB_false E.GX_b E.GG_t E.GG_f E.GG_u E.GU_some E.IX_0 E.IX_s E.CX_s E.FR_none E.EN_e E.GVB_b E.b_boolM E.b_nilM E.b_strM E.b_aggM
attribute [local go_sem] List.cons_append List.nil_append List.append_nil List.length_cons List.length_nil List.length_map List.length_append callM E.argsH_nil E.argsH_cons E.argH_c E.argH_a E.argH_f E.cellsH_nil E.cellsH_cons E.cellH_v E.cellH_b E.cellH_n E.cellH_nt E.cellH_u E.cellH_rt E.cellH_rf capsA capA callable backs backT resVs resV resC tupV lenV intV boolV getE getO entryL entryKs A.ts entryV entryC entryCs entryCap List.map_cons List.map_nil E.cut_n E.cut_r E.cutM plainL A.capOK szEs szE szT SZ whole toB toC List.drop_zero List.take_zero List.take_succ_cons List.drop_succ_cons resultsM resultM outM outM1 convs conv finAs finA finT finTs Int.toNat_natCast A.plain T.plain List.isEmpty_nil List.isEmpty_cons Bool.or_true Bool.true_or Bool.and_self List.getElem?_cons_zero List.getElem?_cons_succ Option.bind_some Option.bind_none Option.bind Nat.zero_add Nat.add_zero OWN BOR ONE SCAL DE ETA E.take_rest Int.toNat_zero E.take_map E.drop_map E.take_len1 List.take_length E.app_map Int.natCast_zero Int.sub_zero Int.toNat_sub partCells V.cells convsL appendM srcM E.scalEs_nil E.scalEs_cons E.oneEs_nil E.oneEs_cons List.all_cons List.all_nil T.one Bool.and_true gone ownEs ownE ownT borEs borE borT setRow splice List.set_cons_zero List.set_cons_succ optI getOpt sliceM ptrTo app_ofL T.isV Value.oneCell' fillC zeroC spliceC allV eqVs eqV minV maxV setAt setCell holed List.dropLast List.getLast?_singleton Option.getD_some Option.isSome_some Option.isSome_none Bool.and_false Bool.true_and Bool.false_and Option.map_some Option.map_none false_or true_or or_true rowAt cellAt E.constV_nil E.constV_int E.constV_bool E.constV_str E.setCell_set E.setCell_len setRow setAt List.dropLast_cons_cons List.dropLast_singleton List.getLast?_cons_cons
attribute [local go_sem_proc ↓] reduceIte
attribute [local go_sem_proc] Nat.reduceEqDiff reduceCtorEq Nat.reduceAdd Nat.reduceMul
attribute [local irreducible] E.argsH E.argH E.cellsH E.cellH E.GV E.GB E.GX E.GG E.GU E.IX E.CX E.RW E.FR E.EN E.CALL E.GO E.GOs E.GPs E.GVB E.KD E.RM E.RG E.CO E.WQ E.EV E.SQ E.BL E.LP E.FK E.S3 E.RK E.NEXT E.NQ E.INDEP
section
attribute [local go_sem] mdG_eq mdM toNat_pred setI List.length_set
theorem insSort_c (l : List Int) (hn : l.length ≤ 12) : Fn Go.Proofs.Tryz.prog 132 [.c (.s true 1 (l.map eInt)), .c (.v (vi 0)), .c (.v (vi l.length))] [.c (.s true 1 ((srt l).map eInt)), .c .d, .c .d] [] := by
  refine E.Fn.ev (n := 49) mdG false mix Go.Proofs.Tryz.func132 rfl (by simp [Go.Proofs.Tryz.f132]) Go.Proofs.Tryz.ntmps132 (by simp) (by kernel_rfl) (rs := []) (tys := []) rfl rfl (by simp [finOK, A.ts, OWN, ownE, ownT]) (by simp [resOK, A.ts, OWN, ownE, ownT, DE]) ?_
  simp only [go_sem]
  repeat' (first
    | with_reducible rfl
    | simp only [IJS]
    | (refine E.CALL.use (less_c _ _) ?_ <;> (try simp only [go_sem]))
    | (refine E.GB.use (fun h => ?_) (fun h => ?_) <;> (simp only [go_sem, h]) <;> (try simp only [HFS] at h))
    | exact E.INDEP.mk2 (by kernel_rfl)
    | exact E.RK.mk (by kernel_rfl)
    | (refine E.IX_map ?_ (fun hx => ?_); rotate_left; simp only [go_sem])
    | (refine E.loopR (ι := List Int × Nat) 1 rfl (fun ⟨d, i⟩ => [(.s 6, .v (.c (.v (vi i)))), (.k (0, 0), .e ⟨0, 1, d.map eInt⟩)]) [0, 1, 2] [(0, 0)] [] (fun ⟨d, i⟩ => l.length - i) (fun ⟨d, i⟩ => d.Perm l ∧ d.length = l.length ∧ 1 ≤ i ∧ (i ≤ l.length ∨ i = 1) ∧ (∀ a b, a < b → b < i → b < l.length → at' d a ≤ at' d b)) mix (by kernel_rfl) (l, 1) ?_ ?_ (fun ⟨d, i⟩ ⟨hp, hdl, h1i, hil, hR⟩ => ?_); all_goals (try simp (maxSteps := 900000) only [go_sem]); all_goals (try dsimp only at hp hdl h1i hil hR))
    | (refine E.NEXT.use [] (d2, i + 1) ?_ ?_ ?_; rotate_left 2; focus (simp (maxSteps := 900000) only [go_sem]; (repeat' (first | with_reducible rfl | exact E.RK.mk (by kernel_rfl) | apply And.intro | (push_cast; with_reducible rfl) | (refine E.int_c ?_; omega) | (simp only [go_sem]; done) | (rw [List.map_append]; rfl) | (simp; done) | (simp only [*]; done) | (rfl; done) | fail)); done))
    | (refine E.loopR (ι := List Int × Nat) 4 rfl (fun ⟨d2, j⟩ => [(.s 7, .v (.c (.v (vi j)))), (.k (0, 0), .e ⟨0, 1, d2.map eInt⟩)]) [0, 1, 2, 6, 10, 11, 12, 13, 14, 15] [(0, 0)] [] (fun ⟨d2, j⟩ => j) (fun ⟨d2, j⟩ => d2.Perm l ∧ d2.length = l.length ∧ j ≤ i ∧ InsI d2 i j) mix (by kernel_rfl) (d, i) ?_ ?_ (fun ⟨d2, j⟩ ⟨hp2, hd2, hji, hI⟩ => ?_); all_goals (try simp (maxSteps := 900000) only [go_sem]); all_goals (try dsimp only at hp2 hd2 hji hI))
    | (refine E.NEXT.use [] (swp d2 j, j - 1) ?_ ?_ ?_; rotate_left 2; focus (simp (maxSteps := 900000) only [go_sem]; (repeat' (first | with_reducible rfl | exact E.RK.mk (by kernel_rfl) | apply And.intro | (push_cast; with_reducible rfl) | (refine E.int_c ?_; omega) | (simp only [go_sem]; done) | (rw [List.map_append]; rfl) | (simp; done) | (simp only [*]; done) | (rfl; done) | fail)); done))
    | apply And.intro
    | omega
    | (simp only [List.length_take, List.length_drop, List.length_append, List.length_set, List.length_cons, List.length_nil]; omega)
    | (push_cast; with_reducible rfl)
    | refine congrArg (List.map _) ?_
    | (exact InsI.start fun a b h1 h2 => hR a b h1 h2 (by omega); done)
    | (rw [swp_len]; assumption; done)
    | (exact (swp_perm (by omega) (by omega)).trans hp2; done)
    | (refine hI.step (by omega) (by omega) (by omega) (by assumption); done)
    | (rw [srt_of hp (srt_of_at fun a b h1 h2 => hR a b h1 (by omega) (by omega))]; done)
    | (intro a b h1 h2 h3; exact hI.done (.inr (by assumption)) a b h1 (by omega); done)
    | (intro a b h1 h2 h3; exact hI.done (.inl (by omega)) a b h1 (by omega); done)
    | fail)
theorem pdq_c  (l : List Int) (lim : Int) (hn : l.length ≤ 12) : Fn Go.Proofs.Tryz.prog 128 [.c (.s true 1 ((l).map eInt)), .c (.v (vi 0)), .c (.v (vi l.length)), .c (.v (vi lim))] [.c (.s true 1 ((srt l).map eInt)), .c .d, .c .d, .c .d] [] := by
  refine E.Fn.ev (n := 134) mdG false mix Go.Proofs.Tryz.func128 rfl (by simp [Go.Proofs.Tryz.f128]) Go.Proofs.Tryz.ntmps128 (by simp) (by kernel_rfl) (rs := []) (tys := []) rfl rfl (by simp [finOK, A.ts, OWN, ownE, ownT]) (by simp [resOK, A.ts, OWN, ownE, ownT, DE]) ?_
  simp only [go_sem]
  repeat' (first
    | simp only [IJS]
    | (refine E.CALL.use (insSort_c _ ?_) ?_ <;> (try simp only [go_sem]))
    | (refine E.GB.use (fun h => ?_) (fun h => ?_) <;> (try (exfalso; simp only [HFS] at h; omega)) <;> (simp only [go_sem, h]) <;> (try simp only [HFS] at h))
    | exact E.RK.mk (by kernel_rfl)
    | (refine E.loopR (ι := Unit) 2 rfl (fun u => [(.s 8, .v (.c (.v (.bool true)))), (.s 9, .v (.c (.v (.bool true)))), (.s 1, .v (.c (.v (vi 0)))), (.s 2, .v (.c (.v (vi l.length)))), (.s 3, .v (.c (.v (vi lim))))]) [0] [] [] (fun u => 0) (fun u => 0 = 0 ∧ 0 = 0) mix (by kernel_rfl) () ?_ ?_ (fun u ⟨hu, hu2⟩ => ?_); all_goals (try simp (maxSteps := 900000) only [go_sem]); all_goals (try dsimp only at hu hu2))
    | apply And.intro
    | omega
    | (rw [srt_len]; done)
    | fail)
theorem sort_c (l : List Int) (hn : l.length ≤ 12) : Fn Go.Proofs.Tryz.prog 119 [.c (.s true 1 (l.map eInt))] [.c (.s true 1 ((srt l).map eInt))] [] := by
  refine E.Fn.ev (n := 11) mdG false mix Go.Proofs.Tryz.func119 rfl (by simp [Go.Proofs.Tryz.f119]) Go.Proofs.Tryz.ntmps119 (by simp) (by kernel_rfl) (rs := []) (tys := []) rfl rfl (by simp [finOK, A.ts, OWN, ownE, ownT]) (by simp [resOK, A.ts, OWN, ownE, ownT, DE]) ?_
  simp only [go_sem]
  repeat' (first
    | simp only [IJS]
    | (refine E.CALL.use (bitsLen_c _ ?_ ?_) ?_ <;> (try simp only [go_sem]))
    | (refine E.CALL.use (pdq_c _ _ ?_) ?_ <;> (try simp only [go_sem]))
    | omega
    | (rw [srt_len]; done)
    | (rw [wrap_u l.length (by omega)]; omega; done)
    | fail)
theorem clone_c (l : List Int) (hl : l.length ≤ 1048576) : Fn Go.Proofs.Tryz.prog 38 [.c (.s false 1 (l.map eInt))] [.c .d] [.c (.s true 1 ((l).map eInt))] := by
  refine E.Fn.ev (n := 8) mdG false mix Go.Proofs.Tryz.func38 rfl (by simp [Go.Proofs.Tryz.f38]) Go.Proofs.Tryz.ntmps38 (by simp) (by kernel_rfl) (rs := [.tmp 2]) (tys := [23]) rfl rfl (by simp [finOK, A.ts, OWN, ownE, ownT]) (by simp [resOK, A.ts, OWN, ownE, ownT, DE]) ?_
  simp only [go_sem]
  repeat' (first
    | simp only [IJS]
    | (refine E.GB.use (fun h => ?_) (fun h => ?_) <;> (simp only [go_sem, h]) <;> (try simp only [HFS] at h))
    | (refine E.NQ.use (fun b hb => ?_); simp only [go_sem])
    | apply And.intro
    | omega
    | (exact (hb h).symm; done)
    | fail)
end
section
attribute [local go_sem] mdG_eq mdM toNat_pred setI List.length_set
theorem putsGo_len : ∀ (l s : List Int), (l.foldl putI s).length ≤ s.length + l.length
  | [], s => by simp
  | x :: l, s => by have := putsGo_len l (putI s x); have := putI_len s x; simp only [List.foldl_cons, List.length_cons]; omega
theorem puts_len (l : List Int) : (puts l).length ≤ l.length := by have := putsGo_len l []; simpa [puts] using this
theorem without_len (a b : List Int) : (without a b).length ≤ a.length := by
  rw [without_eq]; exact Nat.le_trans (List.length_filter_le _ _) (puts_len a)
theorem asc_c (l : List Int) (hn : l.length ≤ 12) : Fn Go.Proofs.Tryz.prog 91 [.c (.s false 1 (l.map eInt))] [.c .d] [.c (.s true 1 ((puts l).map eInt))] := by
  refine E.Fn.ev (n := 10) mdG false mix Go.Proofs.Tryz.func91 rfl (by simp [Go.Proofs.Tryz.f91]) Go.Proofs.Tryz.ntmps91 (by simp) (by kernel_rfl) (rs := [.tmp 2]) (tys := [23]) rfl rfl (by simp [finOK, A.ts, OWN, ownE, ownT]) (by simp [resOK, A.ts, OWN, ownE, ownT, DE]) ?_
  simp only [go_sem]
  repeat' (first
    | simp only [IJS]
    | (refine E.CALL.use (clone_c _ ?_) ?_ <;> (try simp only [go_sem]))
    | (refine E.CALL.use (sort_c _ ?_) ?_ <;> (try simp only [go_sem]))
    | (refine E.CALL.use (compact_c _ ?_) ?_ <;> (try simp only [go_sem]))
    | apply And.intro
    | omega
    | refine congrArg (List.map _) ?_
    | (rw [srt_len]; done)
    | (rw [srt_len]; omega; done)
    | (rw [comp_srt]; done)
    | fail)
theorem inB_c  (x : Int) (b : List Int) (hb : b.length ≤ 1048576) : Fn Go.Proofs.Tryz.prog 92 [.c (.v (vi x)), .q 1 [[.s false 1 (b.map eInt)]] 0 0] [.c .d, .q 1 [[.s false 1 (b.map eInt)]] 0 0] [.c (.v (.bool (b.contains x)))] := by
  refine E.Fn.ev (n := 7) mdG false mix Go.Proofs.Tryz.func92 rfl (by simp [Go.Proofs.Tryz.f92]) Go.Proofs.Tryz.ntmps92 (by simp) (by kernel_rfl) (rs := [.tmp 3]) (tys := [4]) rfl rfl (by simp [finOK, A.ts, OWN, ownE, ownT]) (by simp [resOK, A.ts, OWN, ownE, ownT, DE]) ?_
  simp only [go_sem]
  repeat' (first
    | simp only [IJS]
    | (refine E.CALL.use (has_i _ _ ?_) ?_ <;> (try simp only [go_sem]))
    | apply And.intro
    | omega
    | fail)
theorem without_i (a : List Int) (b : List Int) (ha : a.length ≤ 12) (hb : b.length ≤ 1048576) : Fn Go.Proofs.Tryz.prog 43 [.c (.s false 1 (a.map eInt)), .c (.s false 1 (b.map eInt))] [.c .d, .c .d] [.c (.s true 1 ((without a b).map eInt))] := by
  refine E.Fn.ev (n := 9) mdG false mix Go.Proofs.Tryz.func43 rfl (by simp [Go.Proofs.Tryz.f43]) Go.Proofs.Tryz.ntmps43 (by simp) (by kernel_rfl) (rs := [.tmp 4]) (tys := [23]) rfl rfl (by simp [finOK, A.ts, OWN, ownE, ownT]) (by simp [resOK, A.ts, OWN, ownE, ownT, DE]) ?_
  simp only [go_sem]
  repeat' (first
    | simp only [IJS]
    | (refine E.CALL.use (delF_I1 (puts a) (fun x => b.contains x) 92 1 [[.s false 1 (b.map eInt)]] ?_ (fun x _ => inB_c x b hb)) ?_ <;> (try simp only [go_sem]))
    | (refine E.CALL.use (asc_c _ ?_) ?_ <;> (try simp only [go_sem]))
    | apply And.intro
    | omega
    | (push_cast; with_reducible rfl)
    | refine congrArg (List.map _) ?_
    | (have := puts_len a; omega; done)
    | (rw [without_eq]; done)
    | fail)
theorem common_i (a : List Int) (b : List Int) (ha : a.length ≤ 12) (hb : b.length ≤ 1048576) : Fn Go.Proofs.Tryz.prog 86 [.c (.s false 1 (a.map eInt)), .c (.s false 1 (b.map eInt))] [.c .d, .c .d] [.c (.s true 1 ((common a b).map eInt))] := by
  refine E.Fn.ev (n := 10) mdG false mix Go.Proofs.Tryz.func86 rfl (by simp [Go.Proofs.Tryz.f86]) Go.Proofs.Tryz.ntmps86 (by simp) (by kernel_rfl) (rs := [.tmp 4]) (tys := [23]) rfl rfl (by simp [finOK, A.ts, OWN, ownE, ownT]) (by simp [resOK, A.ts, OWN, ownE, ownT, DE]) ?_
  simp only [go_sem]
  repeat' (first
    | simp only [IJS]
    | (refine E.CALL.use (without_i _ _ ?_ ?_) ?_ <;> (try simp only [go_sem]))
    | apply And.intro
    | omega
    | refine congrArg (List.map _) ?_
    | (have := without_len a b; omega; done)
    | (rw [common_eq]; done)
    | fail)
end
section
attribute [local go_sem] mdG_eq mdM toNat_pred setI List.length_set mdL_eq E.b_rem beq_self_eq_true Bool.not_true bne_self_eq_false heldU_m heldSv_m heldI_m endU_eq endSv_eq heldE_m heldC_m markE_take markE_len
theorem heldC_x (y0 : Int) (y1 : Int) (y2 : List Int) (y3 : List Int) (k : Int) (hB : ConfB ⟨y0, y1, y2, y3⟩) (hk : 0 ≤ k) (hk2 : k ≤ 576460752303423488) : Fn Go.Proofs.Tryz.prog 12 [.a [.v (vi y0), .v (vi y1), .s false 1 (y2.map eInt), .s false 1 (y3.map eInt)], .c (.v (vi k))] [.a [.d, .d, .d, .d], .c .d] [.c (.v (vi (heldC ⟨y0, y1, y2, y3⟩ k)))] := heldC_l ⟨y0, y1, y2, y3⟩ k hB hk hk2
end
end Go.Abs

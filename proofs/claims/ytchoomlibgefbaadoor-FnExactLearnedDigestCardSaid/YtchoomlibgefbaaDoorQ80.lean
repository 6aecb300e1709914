/- Contracts of functions of the program, over the abstract machine, and facts for them. No condition. -/
import Derived.Test.YtchoomlibgefbaaDoorFacts
import Derived.Shelf.Strconv.Itoa1
import Derived.Test.YtchoomlibgefbaaDoorPure20
import Derived.Test.YtchoomlibgefbaaDoorQ3
import Derived.Test.YtchoomlibgefbaaDoorQ30
import Derived.Test.YtchoomlibgefbaaDoorQ8
set_option linter.unusedVariables false
set_option linter.unusedSimpArgs false
set_option linter.unnecessarySimpa false
set_option linter.constructorNameAsVariable false
set_option maxHeartbeats 4000000
set_option maxRecDepth 100000
namespace Go.Abs
open Go
attribute [local go_sem ↓] E.argsA_h E.wq_ret E.wq_req E.wq_bad E.wq_call E.wq_get E.wq_getO E.wq_getOs E.wq_getPs E.wq_fresh E.wq_anyNil E.wq_getR0 E.wq_getR E.wq_ixM E.wq_n E.wq_g E.wq_gn E.ev_skip E.ev_region E.ev_draw E.ev_seq E.ev_cond E.ev_block E.ev_exit E.ev_ret E.sq_n E.sq_e E.sq_r E.bl_n E.bl_e E.bl_r E.lp_n E.lp_e E.lp_r E.fk_n E.fk_r E.q_move E.q_assign E.q_pick E.q_bin E.q_binw E.q_un E.q_alloc E.q_box E.q_build E.q_buildS E.q_makeS E.q_load E.q_store E.q_nilCheck E.q_slice E.q_fieldAddr E.q_field E.q_indexAddr E.q_extract E.q_makeFunc E.q_call E.q_callT E.q_len E.q_append E.q_min E.q_max E.q_convert E.q_cap E.q_clear appendIM appendZM E.b_add E.b_sub E.b_mul E.b_eql E.b_neq E.b_lss E.b_leq E.b_gtr E.b_geq E.GO_tmp E.GO_int E.GO_bool E.GO_str E.GO_nil E.GO_func E.GOs_nil E.GOs_cons E.GPs_nil E.GPs_cons E.RW_nil E.RW_cons E.dstAt_0 E.dstAt_s E.keepL_nil E.keepL_s E.keepL_k E.rmN_nil E.rmN_cons E.memN_nil E.memN_cons E.memK_nil E.memK_cons E.ovl_nil E.ovl_kk E.ovl_sk E.ovl_ks E.ovl_ss ofL_s ofL_sk ofL_ks ofL_k ofL_nil E.CO_tmp E.CO_bool
attribute [local go_sem] E.RM_nil E.RM_cons E.kd_k E.sbr_eq E.s3_nil E.s3_s E.s3_k E.vr_c E.vr_a E.vr_p E.vr_q E.vr_t E.vr_f E.vr_u E.cr_r E.cr_v E.cr_b E.cr_n E.cr_u E.crs_nil E.crs_cons E.renK_nil E.renK_cons keysVs V.keys C.keys keysCs E.RG_nil E.RG_cons E.GV_v E.GB_true E.GB_false E.GX_b E.GG_t E.GG_f E.GG_u E.GU_some E.IX_0 E.IX_s E.CX_s E.FR_none E.EN_e E.GVB_b E.b_boolM E.b_nilM E.b_strM E.b_aggM
attribute [local go_sem] List.cons_append List.nil_append List.append_nil List.length_cons List.length_nil List.length_map List.length_append callM E.argsH_nil E.argsH_cons E.argH_c E.argH_a E.argH_f E.cellsH_nil E.cellsH_cons E.cellH_v E.cellH_b E.cellH_n E.cellH_nt E.cellH_u E.cellH_rt E.cellH_rf capsA capA callable backs backT resVs resV resC tupV lenV intV boolV getE getO entryL entryKs A.ts entryV entryC entryCs entryCap List.map_cons List.map_nil E.cut_n E.cut_r E.cutM plainL A.capOK szEs szE szT SZ whole toB toC List.drop_zero List.take_zero List.take_succ_cons List.drop_succ_cons resultsM resultM outM outM1 convs conv finAs finA finT finTs Int.toNat_natCast A.plain T.plain List.isEmpty_nil List.isEmpty_cons Bool.or_true Bool.true_or Bool.and_self List.getElem?_cons_zero List.getElem?_cons_succ Option.bind_some Option.bind_none Option.bind Nat.zero_add Nat.add_zero OWN BOR ONE SCAL DE ETA E.take_rest Int.toNat_zero E.take_map E.drop_map E.take_len1 List.take_length E.app_map Int.natCast_zero Int.sub_zero Int.toNat_sub partCells V.cells convsL appendM srcM E.scalEs_nil E.scalEs_cons E.oneEs_nil E.oneEs_cons List.all_cons List.all_nil T.one Bool.and_true gone ownEs ownE ownT borEs borE borT setRow splice List.set_cons_zero List.set_cons_succ optI getOpt sliceM ptrTo app_ofL T.isV Value.oneCell' fillC zeroC spliceC allV eqVs eqV minV maxV setAt setCell holed List.dropLast List.getLast?_singleton Option.getD_some Option.isSome_some Option.isSome_none Bool.and_false Bool.true_and Bool.false_and Option.map_some Option.map_none false_or true_or or_true rowAt cellAt E.constV_nil E.constV_int E.constV_bool E.constV_str E.setCell_set E.setCell_len setRow setAt List.dropLast_cons_cons List.dropLast_singleton List.getLast?_cons_cons
attribute [local go_sem_proc ↓] reduceIte
attribute [local go_sem_proc] Nat.reduceEqDiff reduceCtorEq Nat.reduceAdd Nat.reduceMul
attribute [local irreducible] E.argsH E.argH E.cellsH E.cellH E.GV E.GB E.GX E.GG E.GU E.IX E.CX E.RW E.FR E.EN E.CALL E.GO E.GOs E.GPs E.GVB E.KD E.RM E.RG E.CO E.WQ E.EV E.SQ E.BL E.LP E.FK E.S3 E.RK E.NEXT E.NQ E.INDEP
attribute [local go_sem] mdG_eq mdM toNat_pred setI List.length_set mdL_eq E.b_rem E.b_quo E.q_index E.q_convert idxS lenS convS put wrap_byte eStr_eq own_eStr bor_eStr scal_eStr one_eStr sz_eStr sub1N
def smallR : Go.Shelf.Ren := ⟨fun n => if n = 283 then 56 else n, fun n => if n = 9 then 9 else if n = 4 then 4 else if n = 3 then 3 else n, fun n => n⟩
theorem smallL : Go.Proofs.Lays.n283 Go.Proofs.Tryd.prog smallR where
  mixed := mix
  f283 := Go.Proofs.Tryd.func56.trans (congrArg some (by kernel_rfl))
  t3 := Go.Proofs.Tryd.underlying3
  a3 := Go.Proofs.Tryd.isAgg3
  z3 := Go.Proofs.Tryd.sizeOf3
  v3 := Go.Proofs.Tryd.zeroValue3
  t4 := Go.Proofs.Tryd.underlying4
  a4 := Go.Proofs.Tryd.isAgg4
  z4 := Go.Proofs.Tryd.sizeOf4
  v4 := Go.Proofs.Tryd.zeroValue4
  t9 := Go.Proofs.Tryd.underlying9
  a9 := Go.Proofs.Tryd.isAgg9
  z9 := Go.Proofs.Tryd.sizeOf9
  v9 := Go.Proofs.Tryd.zeroValue9
theorem small_c (x : Int) (h0 : 0 ≤ x) (h1 : x ≤ 99) : Fn Go.Proofs.Tryd.prog 56 [.c (.v (vi x))] [.c .d] [.c (.v (.string (itoaB x)))] := by
  obtain ⟨n, rfl⟩ : ∃ n : Nat, x = n := ⟨x.toNat, by omega⟩
  rw [itoaB_nat (by omega)]
  refine Fn.plain1 ⟨_, Go.Proofs.Tryd.func56, by simp [Go.Proofs.Tryd.f56], by simp [Go.Proofs.Tryd.f56]⟩ fun w => ?_
  have := Go.Proofs.Any.internal_strconv_small smallL n (by omega) w
  exact this

theorem fmtInt_c (x : Int) (b : Int) (h0 : 0 ≤ x) (h1 : x ≤ 99) (hb : b = 10) : Fn Go.Proofs.Tryd.prog 52 [.c (.v (vi x)), .c (.v (vi b))] [.c .d, .c .d] [.c (.v (.string (itoaB x)))] := by
  refine E.Fn.ev (n := 54) mdL false mix Go.Proofs.Tryd.func52 rfl (by simp [Go.Proofs.Tryd.f52]) Go.Proofs.Tryd.ntmps52 (by simp) (by kernel_rfl) (rs := [.tmp 4]) (tys := [9]) rfl rfl (by simp [finOK, A.ts, OWN, ownE, ownT]) (by simp [resOK, A.ts, OWN, ownE, ownT, DE]) ?_
  simp only [go_sem]
  repeat' (first
    | simp only [List.cons.injEq, A.c.injEq, A.a.injEq, T.v.injEq, T.s.injEq, Value.bool.injEq, Value.int.injEq, and_true, true_and]
    | (refine E.CALL.use (small_c _ ?_ ?_) ?_ <;> (try simp only [go_sem]))
    | (refine E.GB.use (fun h => ?_) (fun h => ?_) <;> (simp only [go_sem, h]) <;> (try simp only [decide_eq_true_eq, decide_eq_false_iff_not, Bool.not_eq_true', Bool.not_eq_false', Bool.not_eq_true, Bool.not_eq_false, beq_iff_eq, beq_eq_false_iff_ne, bne_iff_ne, bne_eq_false_iff_eq, Int.not_lt, Int.not_le, ne_eq] at h))
    | omega
    | fail)

theorem itoa2_c (x : Int) (h0 : 0 ≤ x) (h1 : x ≤ 99) : Fn Go.Proofs.Tryd.prog 46 [.c (.v (vi x))] [.c .d] [.c (.v (.string (itoaB x)))] := by
  refine E.Fn.ev (n := 5) mdL false mix Go.Proofs.Tryd.func46 rfl (by simp [Go.Proofs.Tryd.f46]) Go.Proofs.Tryd.ntmps46 (by simp) (by kernel_rfl) (rs := [.tmp 2]) (tys := [9]) rfl rfl (by simp [finOK, A.ts, OWN, ownE, ownT]) (by simp [resOK, A.ts, OWN, ownE, ownT, DE]) ?_
  simp only [go_sem]
  repeat' (first
    | simp only [List.cons.injEq, A.c.injEq, A.a.injEq, T.v.injEq, T.s.injEq, Value.bool.injEq, Value.int.injEq, and_true, true_and]
    | (refine E.CALL.use (fmtInt_c _ _ ?_ ?_ ?_) ?_ <;> (try simp only [go_sem]))
    | omega
    | fail)

theorem itoa_c (x : Int) (h0 : 0 ≤ x) (h1 : x ≤ 99) : Fn Go.Proofs.Tryd.prog 37 [.c (.v (vi x))] [.c .d] [.c (.v (.string (itoaB x)))] := by
  refine E.Fn.ev (n := 5) mdL false mix Go.Proofs.Tryd.func37 rfl (by simp [Go.Proofs.Tryd.f37]) Go.Proofs.Tryd.ntmps37 (by simp) (by kernel_rfl) (rs := [.tmp 2]) (tys := [9]) rfl rfl (by simp [finOK, A.ts, OWN, ownE, ownT]) (by simp [resOK, A.ts, OWN, ownE, ownT, DE]) ?_
  simp only [go_sem]
  repeat' (first
    | simp only [List.cons.injEq, A.c.injEq, A.a.injEq, T.v.injEq, T.s.injEq, Value.bool.injEq, Value.int.injEq, and_true, true_and]
    | (refine E.CALL.use (itoa2_c _ ?_ ?_) ?_ <;> (try simp only [go_sem]))
    | omega
    | fail)

theorem fmtI_i (x : Int) (h0 : 0 ≤ x) (h1 : x ≤ 99) : Fn Go.Proofs.Tryd.prog 29 [.c (.v (vi x))] [.c .d] [.c (.v (.string (itoaB x)))] := by
  refine E.Fn.ev (n := 5) mdL false mix Go.Proofs.Tryd.func29 rfl (by simp [Go.Proofs.Tryd.f29]) Go.Proofs.Tryd.ntmps29 (by simp) (by kernel_rfl) (rs := [.tmp 2]) (tys := [9]) rfl rfl (by simp [finOK, A.ts, OWN, ownE, ownT]) (by simp [resOK, A.ts, OWN, ownE, ownT, DE]) ?_
  simp only [go_sem]
  repeat' (first
    | simp only [List.cons.injEq, A.c.injEq, A.a.injEq, T.v.injEq, T.s.injEq, Value.bool.injEq, Value.int.injEq, and_true, true_and]
    | (refine E.CALL.use (itoa_c _ ?_ ?_) ?_ <;> (try simp only [go_sem]))
    | omega
    | fail)

theorem fmtI_s (x : Int) (h0 : 0 ≤ x) (h1 : x ≤ 99) : Fn Go.Proofs.Tryd.prog 24 [.c (.v (vi x))] [.c .d] [.c (.v (.string (itoaB x)))] := by
  refine E.Fn.ev (n := 31) mdL false mix Go.Proofs.Tryd.func24 rfl (by simp [Go.Proofs.Tryd.f24]) Go.Proofs.Tryd.ntmps24 (by simp) (by kernel_rfl) (rs := [.tmp 2]) (tys := [9]) rfl rfl (by simp [finOK, A.ts, OWN, ownE, ownT]) (by simp [resOK, A.ts, OWN, ownE, ownT, DE]) ?_
  simp only [go_sem]
  repeat' (first
    | simp only [List.cons.injEq, A.c.injEq, A.a.injEq, T.v.injEq, T.s.injEq, Value.bool.injEq, Value.int.injEq, and_true, true_and]
    | (refine E.GB.use (fun h => ?_) (fun h => ?_) <;> (simp only [go_sem, h]) <;> (try simp only [decide_eq_true_eq, decide_eq_false_iff_not, Bool.not_eq_true', Bool.not_eq_false', Bool.not_eq_true, Bool.not_eq_false, beq_iff_eq, beq_eq_false_iff_ne, bne_iff_ne, bne_eq_false_iff_eq, Int.not_lt, Int.not_le, ne_eq] at h))
    | exact E.RK.mk (by kernel_rfl)
    | (refine E.loopR (ι := Int × ByteArray) 5 rfl (fun ⟨m, out⟩ => [(.s 0, .v (.c (.v (vi m)))), (.s 3, .v (.c (.v (.string out))))]) [2, 4, 27, 28, 29, 30] [] [] (fun ⟨m, out⟩ => m.toNat) (fun ⟨m, out⟩ => 0 ≤ m ∧ FI x m out) mix (by kernel_rfl) (x, ⟨#[]⟩) ?_ ?_ (fun ⟨m, out⟩ ⟨hm, hF⟩ => ?_); all_goals (try simp (maxSteps := 900000) only [go_sem]); all_goals (try dsimp only at hm hF))
    | (refine E.NEXT.use [] (IntKind.i64.wrap (m.tdiv 10), ⟨#[UInt8.ofNat (IntKind.u8.wrap (48 + m.tmod 10)).toNat]⟩ ++ out) ?_ ?_ ?_; rotate_left 2; focus (simp (maxSteps := 900000) only [go_sem]; (repeat' (first | with_reducible rfl | exact E.RK.mk (by kernel_rfl) | apply And.intro | (push_cast; with_reducible rfl) | (refine E.int_c ?_; omega) | (simp only [go_sem]; done) | (rw [List.map_append]; rfl) | (simp; done) | (simp only [*]; done) | fail)); done))
    | apply And.intro
    | omega
    | (rw [(by with_reducible assumption : x = 0), itoaB_0]; done)
    | (exact .start h0 h1 (by assumption); done)
    | (exact hF.nextW (by assumption); done)
    | ((have q := hF.lo; have q2 := hF.hi; rw [tdiv10 q, wrap64_id (by omega) (by omega)]; omega); done)
    | ((have q := hF.lo; have q2 := hF.hi; rw [tmod10 q]; (first | omega | (unfold in64; omega))); done)
    | ((have q := hF.lo; have q2 := hF.hi; rw [tmod10 q, wrap8_id (by omega) (by omega)]; omega); done)
    | ((exfalso; have q3 := tmod10 hF.lo; omega); done)
    | (rw [hF.z (by with_reducible assumption)]; done)
    | ((have q := hF.sz (by with_reducible assumption); show 1 + _ ≤ _; omega); done)
    | fail)

end Go.Abs

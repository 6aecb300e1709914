/- Contracts of functions of the program, over the abstract machine, and facts for them. No condition. -/
import Derived.Test.YtchoomlibgefbaaDoorFacts
import Derived.Test.YtchoomlibgefbaaDoorPure23
import Derived.Test.YtchoomlibgefbaaDoorQ3
import Derived.Test.YtchoomlibgefbaaDoorQ30
import Derived.Test.YtchoomlibgefbaaDoorQ8
import Derived.Test.YtchoomlibgefbaaDoorQ80
import Derived.Test.YtchoomlibgefbaaDoorQ86
set_option linter.unusedVariables false
set_option linter.unusedSimpArgs false
set_option linter.unnecessarySimpa false
set_option linter.constructorNameAsVariable false
set_option maxHeartbeats 4000000
set_option maxRecDepth 100000
namespace Go.Abs
open Go
attribute [local go_sem ↓] E.argsA_h E.wq_ret E.wq_req E.wq_bad E.wq_call E.wq_get E.wq_getO E.wq_getOs E.wq_getPs E.wq_fresh E.wq_anyNil E.wq_getR0 E.wq_getR E.wq_ixM E.wq_n E.wq_g E.wq_gn E.ev_skip E.ev_region E.ev_draw E.ev_seq E.ev_cond E.ev_block E.ev_exit E.ev_ret E.sq_n E.sq_e E.sq_r E.bl_n E.bl_e E.bl_r E.lp_n E.lp_e E.lp_r E.fk_n E.fk_r E.q_move E.q_assign E.q_pick E.q_bin E.q_binw E.q_un E.q_alloc E.q_box E.q_build E.q_buildS E.q_makeS E.q_load E.q_store E.q_nilCheck E.q_slice E.q_fieldAddr E.q_field E.q_indexAddr E.q_extract E.q_makeFunc E.q_call E.q_callT E.q_len E.q_append E.q_min E.q_max E.q_convert E.q_cap E.q_clear appendIM appendZM E.b_add E.b_sub E.b_mul E.b_eql E.b_neq E.b_lss E.b_leq E.b_gtr E.b_geq E.GO_tmp E.GO_int E.GO_bool E.GO_str E.GO_nil E.GO_func E.GOs_nil E.GOs_cons E.GPs_nil E.GPs_cons E.RW_nil E.RW_cons E.dstAt_0 E.dstAt_s E.keepL_nil E.keepL_s E.keepL_k E.rmN_nil E.rmN_cons E.memN_nil E.memN_cons E.memK_nil E.memK_cons E.ovl_nil E.ovl_kk E.ovl_sk E.ovl_ks E.ovl_ss ofL_s ofL_sk ofL_ks ofL_k ofL_nil E.CO_tmp E.CO_bool
attribute [local go_sem] E.RM_nil E.RM_cons E.kd_k E.sbr_eq E.s3_nil E.s3_s E.s3_k E.vr_c E.vr_a E.vr_p E.vr_q E.vr_t E.vr_f E.vr_u E.cr_r E.cr_v E.cr_b E.cr_n E.cr_u E.crs_nil E.crs_cons E.renK_nil E.renK_cons keysVs V.keys C.keys keysCs E.RG_nil E.RG_cons E.GV_v E.GB_true E.GB_false E.GX_b E.GG_t E.GG_f E.GG_u E.GU_some E.IX_0 E.IX_s E.CX_s E.FR_none E.EN_e E.GVB_b E.b_boolM E.b_nilM E.b_strM E.b_aggM
attribute [local go_sem] List.cons_append List.nil_append List.append_nil List.length_cons List.length_nil List.length_map List.length_append callM E.argsH_nil E.argsH_cons E.argH_c E.argH_a E.argH_f E.cellsH_nil E.cellsH_cons E.cellH_v E.cellH_b E.cellH_n E.cellH_nt E.cellH_u E.cellH_rt E.cellH_rf capsA capA callable backs backT resVs resV resC tupV lenV intV boolV getE getO entryL entryKs A.ts entryV entryC entryCs entryCap List.map_cons List.map_nil E.cut_n E.cut_r E.cutM plainL A.capOK szEs szE szT SZ whole toB toC List.drop_zero List.take_zero List.take_succ_cons List.drop_succ_cons resultsM resultM outM outM1 convs conv finAs finA finT finTs Int.toNat_natCast A.plain T.plain List.isEmpty_nil List.isEmpty_cons Bool.or_true Bool.true_or Bool.and_self List.getElem?_cons_zero List.getElem?_cons_succ Option.bind_some Option.bind_none Option.bind Nat.zero_add Nat.add_zero OWN BOR ONE SCAL DE ETA E.take_rest Int.toNat_zero E.take_map E.drop_map E.take_len1 List.take_length E.app_map Int.natCast_zero Int.sub_zero Int.toNat_sub partCells V.cells convsL appendM srcM E.scalEs_nil E.scalEs_cons E.oneEs_nil E.oneEs_cons List.all_cons List.all_nil T.one Bool.and_true gone ownEs ownE ownT borEs borE borT setRow splice List.set_cons_zero List.set_cons_succ optI getOpt sliceM ptrTo app_ofL T.isV Value.oneCell' fillC zeroC spliceC allV eqVs eqV minV maxV setAt setCell holed List.dropLast List.getLast?_singleton Option.getD_some Option.isSome_some Option.isSome_none Bool.and_false Bool.true_and Bool.false_and Option.map_some Option.map_none false_or true_or or_true rowAt cellAt E.constV_nil E.constV_int E.constV_bool E.constV_str E.setCell_set E.setCell_len setRow setAt List.dropLast_cons_cons List.dropLast_singleton List.getLast?_cons_cons
attribute [local go_sem_proc ↓] reduceIte
attribute [local go_sem_proc] Nat.reduceEqDiff reduceCtorEq Nat.reduceAdd Nat.reduceMul
attribute [local irreducible] E.argsH E.argH E.cellsH E.cellH E.GV E.GB E.GX E.GG E.GU E.IX E.CX E.RW E.FR E.EN E.CALL E.GO E.GOs E.GPs E.GVB E.KD E.RM E.RG E.CO E.WQ E.EV E.SQ E.BL E.LP E.FK E.S3 E.RK E.NEXT E.NQ E.INDEP
section
attribute [local go_sem] mdG_eq mdM toNat_pred setI List.length_set mdL_eq E.b_rem E.b_quo E.q_index E.q_convert idxS lenS convS put wrap_byte eStr_eq own_eStr bor_eStr scal_eStr one_eStr sz_eStr sub1N
theorem chk_s (s : ByteArray) (hs : s.size ≤ 1073741824) : Fn Go.Proofs.Tryd.prog 39 [.c (.v (.string s))] [.c .d] [.c (.v (vi (chk s)))] := by
  refine E.Fn.ev (n := 21) mdL false mix Go.Proofs.Tryd.func39 rfl (by simp [Go.Proofs.Tryd.f39]) Go.Proofs.Tryd.ntmps39 (by simp) (by kernel_rfl) (rs := [.tmp 2]) (tys := [3]) rfl rfl (by simp [finOK, A.ts, OWN, ownE, ownT]) (by simp [resOK, A.ts, OWN, ownE, ownT, DE]) ?_
  simp only [go_sem]
  repeat' (first
    | simp only [List.cons.injEq, A.c.injEq, A.a.injEq, T.v.injEq, T.s.injEq, Value.bool.injEq, Value.int.injEq, and_true, true_and]
    | (refine E.GB.use (fun h => ?_) (fun h => ?_) <;> (simp only [go_sem, h]) <;> (try simp only [decide_eq_true_eq, decide_eq_false_iff_not, Bool.not_eq_true', Bool.not_eq_false', Bool.not_eq_true, Bool.not_eq_false, beq_iff_eq, beq_eq_false_iff_ne, bne_iff_ne, bne_eq_false_iff_eq, Int.not_lt, Int.not_le, ne_eq] at h))
    | exact E.RK.mk (by kernel_rfl)
    | (refine E.loopR (ι := Nat × Int) 3 rfl (fun ⟨i, c⟩ => [(.s 4, .v (.c (.v (vi i)))), (.s 3, .v (.c (.v (vi c))))]) [0, 2, 20] [] [] (fun ⟨i, c⟩ => s.size - i) (fun ⟨i, c⟩ => i ≤ s.size ∧ c = chkTo s i) mix (by kernel_rfl) (0, 5) ?_ ?_ (fun ⟨i, c⟩ ⟨hi, hc⟩ => ?_); all_goals (try simp (maxSteps := 900000) only [go_sem]); all_goals (try dsimp only at hi hc))
    | (refine E.NEXT.use [] (i + 1, (257 * c + byteAt s i + 1).tmod 9949) ?_ ?_ ?_; rotate_left 2; focus (simp (maxSteps := 900000) only [go_sem]; (repeat' (first | with_reducible rfl | exact E.RK.mk (by kernel_rfl) | apply And.intro | (push_cast; with_reducible rfl) | (refine E.int_c ?_; omega) | (simp only [go_sem]; done) | (rw [List.map_append]; rfl) | (simp; done) | (simp only [*]; done) | (refine E.int_c ?_; subst hc; simp only [Int.mul_comm]; done) | fail)); done))
    | apply And.intro
    | omega
    | ((have q := chkTo_in s i; unfold in64 at q; subst hc; omega); done)
    | ((subst hc; rfl); done)
    | ((have e : i = s.size := (by omega); subst hc; rw [e]; rfl); done)
    | (rfl; done)
    | fail)

theorem chk_i (s : ByteArray) (hs : s.size ≤ 1073741824) : Fn Go.Proofs.Tryd.prog 43 [.c (.v (.string s))] [.c .d] [.c (.v (vi (chk s)))] := by
  refine E.Fn.ev (n := 21) mdL false mix Go.Proofs.Tryd.func43 rfl (by simp [Go.Proofs.Tryd.f43]) Go.Proofs.Tryd.ntmps43 (by simp) (by kernel_rfl) (rs := [.tmp 2]) (tys := [3]) rfl rfl (by simp [finOK, A.ts, OWN, ownE, ownT]) (by simp [resOK, A.ts, OWN, ownE, ownT, DE]) ?_
  simp only [go_sem]
  repeat' (first
    | simp only [List.cons.injEq, A.c.injEq, A.a.injEq, T.v.injEq, T.s.injEq, Value.bool.injEq, Value.int.injEq, and_true, true_and]
    | (refine E.GB.use (fun h => ?_) (fun h => ?_) <;> (simp only [go_sem, h]) <;> (try simp only [decide_eq_true_eq, decide_eq_false_iff_not, Bool.not_eq_true', Bool.not_eq_false', Bool.not_eq_true, Bool.not_eq_false, beq_iff_eq, beq_eq_false_iff_ne, bne_iff_ne, bne_eq_false_iff_eq, Int.not_lt, Int.not_le, ne_eq] at h))
    | exact E.RK.mk (by kernel_rfl)
    | (refine E.loopR (ι := Nat × Int) 3 rfl (fun ⟨i, c⟩ => [(.s 7, .v (.c (.v (vi i)))), (.s 3, .v (.c (.v (vi c))))]) [0, 2, 6, 20] [] [] (fun ⟨i, c⟩ => s.size - i) (fun ⟨i, c⟩ => i ≤ s.size ∧ c = chkTo s i) mix (by kernel_rfl) (0, 5) ?_ ?_ (fun ⟨i, c⟩ ⟨hi, hc⟩ => ?_); all_goals (try simp (maxSteps := 900000) only [go_sem]); all_goals (try dsimp only at hi hc))
    | (refine E.NEXT.use [] (i + 1, (257 * c + byteAt s i + 1).tmod 9949) ?_ ?_ ?_; rotate_left 2; focus (simp (maxSteps := 900000) only [go_sem]; (repeat' (first | with_reducible rfl | exact E.RK.mk (by kernel_rfl) | apply And.intro | (push_cast; with_reducible rfl) | (refine E.int_c ?_; omega) | (simp only [go_sem]; done) | (rw [List.map_append]; rfl) | (simp; done) | (simp only [*]; done) | (refine E.int_c ?_; subst hc; simp only [Int.mul_comm]; done) | fail)); done))
    | apply And.intro
    | omega
    | ((have q := chkTo_in s i; unfold in64 at q; subst hc; omega); done)
    | ((subst hc; rfl); done)
    | ((have e : i = s.size := (by omega); subst hc; rw [e]; rfl); done)
    | (rfl; done)
    | fail)

theorem fmtOp_s (o : ROp) (hv : validOp o = true) : Fn Go.Proofs.Tryd.prog 48 [.a (eROp o)] [.a [.d, .d, .d, .d, .d, .d]] [.c (.v (.string (fmtOp o)))] := by
  refine E.Fn.ev (n := 46) mdL false mix Go.Proofs.Tryd.func48 rfl (by simp [Go.Proofs.Tryd.f48]) Go.Proofs.Tryd.ntmps48 (by simp) (by kernel_rfl) (rs := [.tmp 2]) (tys := [9]) rfl rfl (by simp [finOK, A.ts, OWN, ownE, ownT]) (by simp [resOK, A.ts, OWN, ownE, ownT, DE]) ?_
  simp only [go_sem]
  repeat' (first
    | simp only [List.cons.injEq, A.c.injEq, A.a.injEq, T.v.injEq, T.s.injEq, Value.bool.injEq, Value.int.injEq, and_true, true_and]
    | (refine E.CALL.use (validOp_s _) ?_ <;> (try simp only [go_sem]))
    | (refine E.CALL.use (fmtI_s _ ?_ ?_) ?_ <;> (try simp only [go_sem]))
    | (refine E.GB.use (fun h => ?_) (fun h => ?_) <;> (simp only [go_sem, h]) <;> (try simp only [decide_eq_true_eq, decide_eq_false_iff_not, Bool.not_eq_true', Bool.not_eq_false', Bool.not_eq_true, Bool.not_eq_false, beq_iff_eq, beq_eq_false_iff_ne, bne_iff_ne, bne_eq_false_iff_eq, Int.not_lt, Int.not_le, ne_eq] at h))
    | exact E.INDEP.mk2 (by kernel_rfl)
    | apply And.intro
    | omega
    | ((have q := op_in hv; omega); done)
    | ((have e1 : Array.size (#[46] : Array UInt8) = 1 := rfl; have e2 : Array.size (#[32] : Array UInt8) = 1 := rfl; have e3 : Array.size (#[32, 115, 119, 97, 112, 32] : Array UInt8) = 6 := rfl; have e4 : Array.size (#[32, 119, 114, 105, 116, 101, 32] : Array UInt8) = 7 := rfl; have e5 : Array.size (#[115, 119, 97, 112, 32] : Array UInt8) = 5 := rfl; have e6 : Array.size (#[119, 114, 105, 116, 101, 32] : Array UInt8) = 6 := rfl; have e7 : Array.size (#[58] : Array UInt8) = 1 := rfl; have e8 : Array.size (#[] : Array UInt8) = 0 := rfl; have h1 := itoaB_size o.client; have h2 := itoaB_size o.seq; have h3 := itoaB_size o.obj; have h4 := itoaB_size o.old; have h5 := itoaB_size o.val; (try simp only [ByteArray.size_append]); (try simp only [e1, e2, e3, e4, e5, e6]); omega); done)
    | (exact absurd (hv.symm.trans (by with_reducible assumption : validOp o = false)) (by decide); done)
    | (rw [fmtOp_s2 (by have q := op_in hv; omega)]; done)
    | (rw [fmtOp_s1 (by omega)]; done)
    | fail)

theorem fmtOp_i (o : ROp) (hv : validOp o = true) : Fn Go.Proofs.Tryd.prog 50 [.a (eROp o)] [.a [.d, .d, .d, .d, .d, .d]] [.c (.v (.string (fmtOp o)))] := by
  refine E.Fn.ev (n := 45) mdL false mix Go.Proofs.Tryd.func50 rfl (by simp [Go.Proofs.Tryd.f50]) Go.Proofs.Tryd.ntmps50 (by simp) (by kernel_rfl) (rs := [.tmp 2]) (tys := [9]) rfl rfl (by simp [finOK, A.ts, OWN, ownE, ownT]) (by simp [resOK, A.ts, OWN, ownE, ownT, DE]) ?_
  simp only [go_sem]
  repeat' (first
    | simp only [List.cons.injEq, A.c.injEq, A.a.injEq, T.v.injEq, T.s.injEq, Value.bool.injEq, Value.int.injEq, and_true, true_and]
    | (refine E.CALL.use (validOp_i _) ?_ <;> (try simp only [go_sem]))
    | (refine E.CALL.use (fmtI_i _ ?_ ?_) ?_ <;> (try simp only [go_sem]))
    | (refine E.GB.use (fun h => ?_) (fun h => ?_) <;> (simp only [go_sem, h]) <;> (try simp only [decide_eq_true_eq, decide_eq_false_iff_not, Bool.not_eq_true', Bool.not_eq_false', Bool.not_eq_true, Bool.not_eq_false, beq_iff_eq, beq_eq_false_iff_ne, bne_iff_ne, bne_eq_false_iff_eq, Int.not_lt, Int.not_le, ne_eq] at h))
    | exact E.INDEP.mk2 (by kernel_rfl)
    | apply And.intro
    | omega
    | ((have q := op_in hv; omega); done)
    | ((have e1 : Array.size (#[46] : Array UInt8) = 1 := rfl; have e2 : Array.size (#[32] : Array UInt8) = 1 := rfl; have e3 : Array.size (#[32, 115, 119, 97, 112, 32] : Array UInt8) = 6 := rfl; have e4 : Array.size (#[32, 119, 114, 105, 116, 101, 32] : Array UInt8) = 7 := rfl; have e5 : Array.size (#[115, 119, 97, 112, 32] : Array UInt8) = 5 := rfl; have e6 : Array.size (#[119, 114, 105, 116, 101, 32] : Array UInt8) = 6 := rfl; have e7 : Array.size (#[58] : Array UInt8) = 1 := rfl; have e8 : Array.size (#[] : Array UInt8) = 0 := rfl; have h1 := itoaB_size o.client; have h2 := itoaB_size o.seq; have h3 := itoaB_size o.obj; have h4 := itoaB_size o.old; have h5 := itoaB_size o.val; (try simp only [ByteArray.size_append]); (try simp only [e1, e2, e3, e4, e5, e6]); omega); done)
    | (exact absurd (hv.symm.trans (by with_reducible assumption : validOp o = false)) (by decide); done)
    | (rw [fmtOp_2 (by with_reducible assumption)]; done)
    | (rw [fmtOp_1 (by with_reducible assumption)]; done)
    | fail)

end
section
attribute [local go_sem] mdG_eq mdM toNat_pred setI List.length_set mdL_eq E.b_rem E.b_quo E.q_index E.q_convert idxS lenS convS put wrap_byte eStr_eq own_eStr bor_eStr scal_eStr one_eStr sz_eStr sub1N
theorem fmtRes_s (r : Res) : Fn Go.Proofs.Tryd.prog 22 [.a (eRes r)] [.a [.d, .d]] [.c (.v (.string (fmtRes r)))] := by
  refine E.Fn.ev (n := 17) mdL false mix Go.Proofs.Tryd.func22 rfl (by simp [Go.Proofs.Tryd.f22]) Go.Proofs.Tryd.ntmps22 (by simp) (by kernel_rfl) (rs := [.tmp 2]) (tys := [9]) rfl rfl (by simp [finOK, A.ts, OWN, ownE, ownT]) (by simp [resOK, A.ts, OWN, ownE, ownT, DE]) ?_
  simp only [go_sem]
  repeat' (first
    | simp only [List.cons.injEq, A.c.injEq, A.a.injEq, T.v.injEq, T.s.injEq, Value.bool.injEq, Value.int.injEq, and_true, true_and]
    | (refine E.CALL.use (in_s _ _ _) ?_ <;> (try simp only [go_sem]))
    | (refine E.CALL.use (fmtI_s _ ?_ ?_) ?_ <;> (try simp only [go_sem]))
    | (refine E.GB.use (fun h => ?_) (fun h => ?_) <;> (simp only [go_sem, h]) <;> (try simp only [decide_eq_true_eq, decide_eq_false_iff_not, Bool.not_eq_true', Bool.not_eq_false', Bool.not_eq_true, Bool.not_eq_false, beq_iff_eq, beq_eq_false_iff_ne, bne_iff_ne, bne_eq_false_iff_eq, Int.not_lt, Int.not_le, ne_eq] at h))
    | apply And.intro
    | omega
    | (have q := inR_of (by with_reducible assumption : inR r.val 0 9 = true); omega; done)
    | ((have e1 : Array.size (#[100, 111, 110, 101, 32] : Array UInt8) = 5 := rfl; have e2 : Array.size (#[107, 101, 112, 116, 32] : Array UInt8) = 5 := rfl; have e3 : Array.size (#[111, 107, 32] : Array UInt8) = 3 := rfl; have e4 : Array.size (#[32] : Array UInt8) = 1 := rfl; have h1 := itoaB_size r.val; (try simp only [ByteArray.size_append]); (try simp only [e1, e2]); omega); done)
    | (rw [fmtRes_n (by with_reducible assumption)]; done)
    | (rw [fmtRes_d (by with_reducible assumption) (by with_reducible assumption)]; done)
    | (rw [fmtRes_k (by with_reducible assumption) (by with_reducible assumption)]; done)
    | fail)

theorem fmtRes_i (r : Res) : Fn Go.Proofs.Tryd.prog 27 [.a (eRes r)] [.a [.d, .d]] [.c (.v (.string (fmtRes r)))] := by
  refine E.Fn.ev (n := 17) mdL false mix Go.Proofs.Tryd.func27 rfl (by simp [Go.Proofs.Tryd.f27]) Go.Proofs.Tryd.ntmps27 (by simp) (by kernel_rfl) (rs := [.tmp 2]) (tys := [9]) rfl rfl (by simp [finOK, A.ts, OWN, ownE, ownT]) (by simp [resOK, A.ts, OWN, ownE, ownT, DE]) ?_
  simp only [go_sem]
  repeat' (first
    | simp only [List.cons.injEq, A.c.injEq, A.a.injEq, T.v.injEq, T.s.injEq, Value.bool.injEq, Value.int.injEq, and_true, true_and]
    | (refine E.CALL.use (in_i _ _ _) ?_ <;> (try simp only [go_sem]))
    | (refine E.CALL.use (fmtI_i _ ?_ ?_) ?_ <;> (try simp only [go_sem]))
    | (refine E.GB.use (fun h => ?_) (fun h => ?_) <;> (simp only [go_sem, h]) <;> (try simp only [decide_eq_true_eq, decide_eq_false_iff_not, Bool.not_eq_true', Bool.not_eq_false', Bool.not_eq_true, Bool.not_eq_false, beq_iff_eq, beq_eq_false_iff_ne, bne_iff_ne, bne_eq_false_iff_eq, Int.not_lt, Int.not_le, ne_eq] at h))
    | apply And.intro
    | omega
    | (have q := inR_of (by with_reducible assumption : inR r.val 0 9 = true); omega; done)
    | ((have e1 : Array.size (#[100, 111, 110, 101, 32] : Array UInt8) = 5 := rfl; have e2 : Array.size (#[107, 101, 112, 116, 32] : Array UInt8) = 5 := rfl; have e3 : Array.size (#[111, 107, 32] : Array UInt8) = 3 := rfl; have e4 : Array.size (#[32] : Array UInt8) = 1 := rfl; have h1 := itoaB_size r.val; (try simp only [ByteArray.size_append]); (try simp only [e1, e2]); omega); done)
    | (rw [fmtRes_n (by with_reducible assumption)]; done)
    | (rw [fmtRes_d (by with_reducible assumption) (by with_reducible assumption)]; done)
    | (rw [fmtRes_k (by with_reducible assumption) (by with_reducible assumption)]; done)
    | fail)

theorem fmtRep_s (r : Rep) : Fn Go.Proofs.Tryd.prog 10 [.a (eRep r)] [.a [.d, .d, .d, .d]] [.c (.v (.string (fmtRep r)))] := by
  refine E.Fn.ev (n := 28) mdL false mix Go.Proofs.Tryd.func10 rfl (by simp [Go.Proofs.Tryd.f10]) Go.Proofs.Tryd.ntmps10 (by simp) (by kernel_rfl) (rs := [.tmp 2]) (tys := [9]) rfl rfl (by simp [finOK, A.ts, OWN, ownE, ownT]) (by simp [resOK, A.ts, OWN, ownE, ownT, DE]) ?_
  simp only [go_sem]
  repeat' (first
    | simp only [List.cons.injEq, A.c.injEq, A.a.injEq, T.v.injEq, T.s.injEq, Value.bool.injEq, Value.int.injEq, and_true, true_and]
    | (refine E.CALL.use (codeN_s _) ?_ <;> (try simp only [go_sem]))
    | (refine E.CALL.use (fmtRes_s _) ?_ <;> (try simp only [go_sem]))
    | (refine E.CALL.use (in_s _ _ _) ?_ <;> (try simp only [go_sem]))
    | (refine E.CALL.use (fmtI_s _ ?_ ?_) ?_ <;> (try simp only [go_sem]))
    | (refine E.GB.use (fun h => ?_) (fun h => ?_) <;> (simp only [go_sem, h]) <;> (try simp only [decide_eq_true_eq, decide_eq_false_iff_not, Bool.not_eq_true', Bool.not_eq_false', Bool.not_eq_true, Bool.not_eq_false, beq_iff_eq, beq_eq_false_iff_ne, bne_iff_ne, bne_eq_false_iff_eq, Int.not_lt, Int.not_le, ne_eq] at h))
    | apply And.intro
    | omega
    | (have q := inR_of (by with_reducible assumption : inR r.idx 0 16 = true); omega; done)
    | ((have e1 : Array.size (#[100, 111, 110, 101, 32] : Array UInt8) = 5 := rfl; have e2 : Array.size (#[107, 101, 112, 116, 32] : Array UInt8) = 5 := rfl; have e3 : Array.size (#[111, 107, 32] : Array UInt8) = 3 := rfl; have e4 : Array.size (#[32] : Array UInt8) = 1 := rfl; have h1 := itoaB_size r.idx; have h2 := fmtRes_size r.res; (try simp only [ByteArray.size_append]); (try simp only [e3, e4]); omega); done)
    | (rw [fmtRep_c (by with_reducible assumption)]; done)
    | (rw [fmtRep_1 (by with_reducible assumption) (by with_reducible assumption)]; done)
    | (rw [fmtRep_2 (by with_reducible assumption) (by with_reducible assumption)]; done)
    | (rw [fmtRep_3 (by with_reducible assumption) (by with_reducible assumption) (by with_reducible assumption)]; done)
    | fail)

theorem fmtRep_i (r : Rep) : Fn Go.Proofs.Tryd.prog 12 [.a (eRep r)] [.a [.d, .d, .d, .d]] [.c (.v (.string (fmtRep r)))] := by
  refine E.Fn.ev (n := 28) mdL false mix Go.Proofs.Tryd.func12 rfl (by simp [Go.Proofs.Tryd.f12]) Go.Proofs.Tryd.ntmps12 (by simp) (by kernel_rfl) (rs := [.tmp 2]) (tys := [9]) rfl rfl (by simp [finOK, A.ts, OWN, ownE, ownT]) (by simp [resOK, A.ts, OWN, ownE, ownT, DE]) ?_
  simp only [go_sem]
  repeat' (first
    | simp only [List.cons.injEq, A.c.injEq, A.a.injEq, T.v.injEq, T.s.injEq, Value.bool.injEq, Value.int.injEq, and_true, true_and]
    | (refine E.CALL.use (codeN_i _) ?_ <;> (try simp only [go_sem]))
    | (refine E.CALL.use (fmtRes_i _) ?_ <;> (try simp only [go_sem]))
    | (refine E.CALL.use (in_i _ _ _) ?_ <;> (try simp only [go_sem]))
    | (refine E.CALL.use (fmtI_i _ ?_ ?_) ?_ <;> (try simp only [go_sem]))
    | (refine E.GB.use (fun h => ?_) (fun h => ?_) <;> (simp only [go_sem, h]) <;> (try simp only [decide_eq_true_eq, decide_eq_false_iff_not, Bool.not_eq_true', Bool.not_eq_false', Bool.not_eq_true, Bool.not_eq_false, beq_iff_eq, beq_eq_false_iff_ne, bne_iff_ne, bne_eq_false_iff_eq, Int.not_lt, Int.not_le, ne_eq] at h))
    | apply And.intro
    | omega
    | (have q := inR_of (by with_reducible assumption : inR r.idx 0 16 = true); omega; done)
    | ((have e1 : Array.size (#[100, 111, 110, 101, 32] : Array UInt8) = 5 := rfl; have e2 : Array.size (#[107, 101, 112, 116, 32] : Array UInt8) = 5 := rfl; have e3 : Array.size (#[111, 107, 32] : Array UInt8) = 3 := rfl; have e4 : Array.size (#[32] : Array UInt8) = 1 := rfl; have h1 := itoaB_size r.idx; have h2 := fmtRes_size r.res; (try simp only [ByteArray.size_append]); (try simp only [e3, e4]); omega); done)
    | (rw [fmtRep_c (by with_reducible assumption)]; done)
    | (rw [fmtRep_1 (by with_reducible assumption) (by with_reducible assumption)]; done)
    | (rw [fmtRep_2 (by with_reducible assumption) (by with_reducible assumption)]; done)
    | (rw [fmtRep_3 (by with_reducible assumption) (by with_reducible assumption) (by with_reducible assumption)]; done)
    | fail)

theorem toRep_l (r : Rep) : Fn Go.Proofs.Tryd.prog 11 [.a (eRep r)] [.a [.d, .d, .d, .d]] [.a (eRep (r))] := by
  refine E.Fn.ev (n := 15) mdL false mix Go.Proofs.Tryd.func11 rfl (by simp [Go.Proofs.Tryd.f11]) Go.Proofs.Tryd.ntmps11 (by simp) (by kernel_rfl) (rs := [.cell 2 44]) (tys := [44]) rfl rfl (by simp [finOK, A.ts, OWN, ownE, ownT]) (by simp [resOK, A.ts, OWN, ownE, ownT, DE]) ?_
  simp only [go_sem]
  repeat' (first
    | simp only [List.cons.injEq, A.c.injEq, A.a.injEq, T.v.injEq, T.s.injEq, Value.bool.injEq, Value.int.injEq, and_true, true_and]
    | (refine E.CALL.use (toRes_l _) ?_ <;> (try simp only [go_sem]))
    | apply And.intro
    | omega
    | fail)

end

end Go.Abs

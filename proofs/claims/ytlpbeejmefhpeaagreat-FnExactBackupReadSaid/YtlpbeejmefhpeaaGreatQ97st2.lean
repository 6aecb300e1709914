/- Contracts of functions of the program, over the abstract machine, and facts for them. No condition. -/
import Derived.Test.YtlpbeejmefhpeaaGreatFacts
import Derived.Test.YtlpbeejmefhpeaaGreatPure26
import Derived.Test.YtlpbeejmefhpeaaGreatQ13
import Derived.Test.YtlpbeejmefhpeaaGreatQ16
import Derived.Test.YtlpbeejmefhpeaaGreatQ28
import Derived.Test.YtlpbeejmefhpeaaGreatQ3
import Derived.Test.YtlpbeejmefhpeaaGreatQ4
import Derived.Test.YtlpbeejmefhpeaaGreatQ43
import Derived.Test.YtlpbeejmefhpeaaGreatQ7
import Derived.Test.YtlpbeejmefhpeaaGreatQ8
import Derived.Test.YtlpbeejmefhpeaaGreatQ97it0
set_option linter.unusedVariables false
set_option linter.unusedSimpArgs false
set_option linter.unnecessarySimpa false
set_option linter.constructorNameAsVariable false
set_option maxHeartbeats 4000000
set_option maxRecDepth 100000
namespace Go.Abs
open Go
attribute [local go_sem ↓] E.argsA_h E.wq_ret E.wq_req E.wq_bad E.wq_call E.wq_get E.wq_getO E.wq_getOs E.wq_getPs E.wq_fresh E.wq_anyNil E.wq_getR0 E.wq_getR E.wq_ixM E.wq_n E.wq_g E.wq_gn E.ev_skip E.ev_region E.ev_draw E.ev_seq E.ev_cond E.ev_block E.ev_exit E.ev_ret E.sq_n E.sq_e E.sq_r E.bl_n E.bl_e E.bl_r E.lp_n E.lp_e E.lp_r E.fk_n E.fk_r E.q_move E.q_assign E.q_pick E.q_bin E.q_binw E.q_un E.q_alloc E.q_box E.q_build E.q_buildS E.q_makeS E.q_load E.q_store E.q_nilCheck E.q_slice E.q_fieldAddr E.q_field E.q_indexAddr E.q_extract E.q_makeFunc E.q_call E.q_callT E.q_len E.q_append E.q_min E.q_max E.q_convert E.q_cap E.q_clear appendIM appendZM E.b_add E.b_sub E.b_mul E.b_eql E.b_neq E.b_lss E.b_leq E.b_gtr E.b_geq E.GO_tmp E.GO_int E.GO_bool E.GO_str E.GO_nil E.GO_func E.GOs_nil E.GOs_cons E.GPs_nil E.GPs_cons E.RW_nil E.RW_cons E.dstAt_0 E.dstAt_s E.keepL_nil E.keepL_s E.keepL_k E.rmN_nil E.rmN_cons E.memN_nil E.memN_cons E.memK_nil E.memK_cons E.ovl_nil E.ovl_kk E.ovl_sk E.ovl_ks E.ovl_ss ofL_s ofL_sk ofL_ks ofL_k ofL_nil E.CO_tmp E.CO_bool
attribute [local go_sem] E.RM_nil E.RM_cons E.kd_k E.sbr_eq E.s3_nil E.s3_s E.s3_k E.vr_c E.vr_a E.vr_p E.vr_q E.vr_t E.vr_f E.vr_u E.cr_r E.cr_v E.cr_b E.cr_n E.cr_u E.crs_nil E.crs_cons E.renK_nil E.renK_cons keysVs V.keys C.keys keysCs E.RG_nil E.RG_cons E.GV_v E.GB_true E.GB_false E.GX_b E.GG_t E.GG_f E.GG_u E.GU_some E.IX_0 E.IX_s E.CX_s E.FR_none E.EN_e E.GVB_b E.b_boolM E.b_nilM E.b_strM E.b_aggM
attribute [local go_sem] List.cons_append List.nil_append List.append_nil List.length_cons List.length_nil List.length_map List.length_append callM E.argsH_nil E.argsH_cons E.argH_c E.argH_a E.argH_f E.cellsH_nil E.cellsH_cons E.cellH_v E.cellH_b E.cellH_n E.cellH_nt E.cellH_u E.cellH_rt E.cellH_rf capsA capA callable backs backT resVs resV resC tupV lenV intV boolV getE getO entryL entryKs A.ts entryV entryC entryCs entryCap List.map_cons List.map_nil E.cut_n E.cut_r E.cutM plainL A.lastOK T.lastOK Bool.false_or A.capOK szEs szE szT SZ whole toB toC List.drop_zero List.take_zero List.take_succ_cons List.drop_succ_cons resultsM resultM outM outM1 convs conv finAs finA finT finTs Int.toNat_natCast A.plain T.plain List.isEmpty_nil List.isEmpty_cons Bool.or_true Bool.true_or Bool.and_self List.getElem?_cons_zero List.getElem?_cons_succ Option.bind_some Option.bind_none Option.bind Nat.zero_add Nat.add_zero OWN BOR ONE SCAL DE ETA E.take_rest Int.toNat_zero E.take_map E.drop_map E.take_len1 List.take_length E.app_map Int.natCast_zero Int.sub_zero Int.toNat_sub partCells V.cells convsL appendM srcM E.scalEs_nil E.scalEs_cons E.oneEs_nil E.oneEs_cons List.all_cons List.all_nil T.one Bool.and_true gone ownEs ownE ownT borEs borE borT setRow splice List.set_cons_zero List.set_cons_succ optI getOpt sliceM ptrTo app_ofL T.isV Value.oneCell' fillC zeroC spliceC allV eqVs eqV minV maxV setAt setCell holed List.dropLast List.getLast?_singleton Option.getD_some Option.isSome_some Option.isSome_none Bool.and_false Bool.true_and Bool.false_and Option.map_some Option.map_none false_or true_or or_true rowAt cellAt E.constV_nil E.constV_int E.constV_bool E.constV_str E.setCell_set E.setCell_len setRow setAt List.dropLast_cons_cons List.dropLast_singleton List.getLast?_cons_cons
attribute [local go_sem_proc ↓] reduceIte
attribute [local go_sem_proc] Nat.reduceEqDiff reduceCtorEq Nat.reduceAdd Nat.reduceMul
attribute [local irreducible] E.argsH E.argH E.cellsH E.cellH E.GV E.GB E.GX E.GG E.GU E.IX E.CX E.RW E.FR E.EN E.CALL E.GO E.GOs E.GPs E.GVB E.KD E.RM E.RG E.CO E.WQ E.EV E.SQ E.BL E.LP E.FK E.S3 E.RK E.NEXT E.NQ E.INDEP
section
attribute [local go_sem] mdG_eq mdM toNat_pred setI List.length_set mdI_eq mdL_eq Bool.not_true Bool.not_false
theorem apply_st2 (m : Mach) (o : ROp) (hM : MachB m) (hs : (sessOf m o.client).isSome = true) (hk : (o.kind == 1) = false) (hw : (at' m.objs o.obj.toNat == o.old) = false) : Fn Go.Proofs.Tryz.prog 58 [.a (eMach false m), .a (eROp o)] [.a [.d, .d], .a [.d, .d, .d, .d, .d, .d]] [.a (eMach true ((applyOp m o).1)), .a (eRes ((applyOp m o).2.1)), .c (.v (.bool ((applyOp m o).2.2)))] := by
  refine E.Fn.ev (n := 127) mdI false mix Go.Proofs.Tryz.func58 rfl (by simp [Go.Proofs.Tryz.f58]) Go.Proofs.Tryz.ntmps58 (by simp) (by kernel_rfl) (rs := [.cell 4 97, .cell 5 34, .tmp 6]) (tys := [97, 34, 4]) rfl rfl (by simp [finOK, A.ts, OWN, ownE, ownT]) (by simp [resOK, A.ts, OWN, ownE, ownT, DE]) ?_
  simp only [go_sem, hs, hk, hw]
  repeat' (first
    | simp only [IJS]
    | (refine E.CALL.use (copyMh_s _ ?_) ?_ <;> (try simp only [go_sem, hs, hk, hw]))
    | (refine E.CALL.use (validM_s _ ?_) ?_ <;> (try simp only [go_sem, hs, hk, hw]))
    | (refine E.CALL.use (validOp_s _) ?_ <;> (try simp only [go_sem, hs, hk, hw]))
    | (refine E.CALL.use (sessOf_s _ _ ?_) ?_ <;> (try simp only [go_sem, hs, hk, hw]))
    | (refine E.GB.use (fun h => ?_) (fun h => ?_) <;> (simp only [go_sem, hs, hk, hw, h]) <;> (try simp only [HFS] at h))
    | exact E.INDEP.mk2 (by kernel_rfl)
    | exact E.RK.mk (by kernel_rfl)
    | (refine E.IX_map ?_ (fun hx => ?_); rotate_left; simp only [go_sem, hs, hk, hw])
    | (refine E.loopR (ι := Nat) 14 rfl (fun k => [(.s 12, .v (.c (.v (vi k))))]) [3, 4, 5, 6, 7, 9, 11, 13, 98, 99, 100, 101, 102, 103, 104, 105, 106, 107, 108, 109, 110, 111, 112, 113, 114, 115, 116, 117, 118, 119, 120, 121, 122, 123, 124, 125, 126] [] [] (fun k => m.sess.length - k) (fun k => k ≤ m.sess.length ∧ k + before (m.sess.drop k) o.client = before m.sess o.client) mix (by kernel_rfl) 0 ?_ ?_ (fun k ⟨hk0, hR⟩ => ?_); all_goals (try simp (maxSteps := 900000) only [go_sem, hs, hk, hw]); all_goals (try dsimp only at hk0 hR))
    | (refine E.NEXT.use [] (k + 1) ?_ ?_ ?_; rotate_left 2; focus (simp (maxSteps := 900000) only [go_sem, hs, hk, hw]; (repeat' (first | with_reducible rfl | exact E.RK.mk (by kernel_rfl) | apply And.intro | (push_cast; with_reducible rfl) | (refine E.int_c ?_; omega) | (simp only [go_sem]; done) | (rw [List.map_append]; rfl) | (simp; done) | (simp only [*]; done) | fail)); done))
    | apply And.intro
    | omega
    | refine congrArg (List.map _) ?_
    | (have q := hM.s; omega; done)
    | (have q := vm_of (by with_reducible assumption); have q2 := op_in (by with_reducible assumption); omega; done)
    | ((have q2 := hM.s; simp only [List.length_take, List.length_drop]; omega); done)
    | (exact bef_y (by omega) hR (by with_reducible assumption); done)
    | ((have q := bef_had hs; have q2 : before m.sess o.client = k := (by first | exact bef_n (by omega) hR (by omega) | exact bef_e (by omega) hR); omega); done)
    | ((rw [ap_v (by with_reducible assumption)] <;> rfl); done)
    | ((rw [ap_o (by with_reducible assumption)] <;> rfl); done)
    | ((rw [ap_lt (by with_reducible assumption) (by with_reducible assumption) hs (by omega)] <;> rfl); done)
    | ((rw [ap_eq (by with_reducible assumption) (by with_reducible assumption) hs (by omega)] <;> rfl); done)
    | ((rw [ap_hadF (k := k) (by with_reducible assumption) (by with_reducible assumption) hs (by omega) (by omega) (by first | exact bef_n (by omega) hR (by omega) | exact bef_e (by omega) hR) (beq_eq_false_iff_ne.1 hk) (beq_eq_false_iff_ne.1 hw)] <;> rfl); done)
    | ((rw [ap_hadF (k := k) (by with_reducible assumption) (by with_reducible assumption) hs (by omega) (by omega) (by first | exact bef_n (by omega) hR (by omega) | exact bef_e (by omega) hR) (beq_eq_false_iff_ne.1 hk) (beq_eq_false_iff_ne.1 hw)]; exact fin_hadS m.sess k ⟨o.client, o.seq, ⟨false, at' m.objs o.obj.toNat⟩⟩ (by have q := bef_had hs; have q2 : before m.sess o.client = k := (by first | exact bef_n (by omega) hR (by omega) | exact bef_e (by omega) hR); omega)); done)
    | fail)
end
section
attribute [local go_sem] mdG_eq mdM toNat_pred setI List.length_set mdI_eq mdL_eq Bool.not_true Bool.not_false
theorem apply_s (m : Mach) (o : ROp) (hM : MachB m) : Fn Go.Proofs.Tryz.prog 58 [.a (eMach false m), .a (eROp o)] [.a [.d, .d], .a [.d, .d, .d, .d, .d, .d]] [.a (eMach true (applyOp m o).1), .a (eRes (applyOp m o).2.1), .c (.v (.bool (applyOp m o).2.2))] := by
  cases hs : (sessOf m o.client).isSome <;> cases hk : (o.kind == 1)
  · cases hw : (at' m.objs o.obj.toNat == o.old)
    · exact apply_sf2 m o hM hs hk hw
    · exact apply_sf1 m o hM hs hk hw
  · exact apply_sf0 m o hM hs hk
  · cases hw : (at' m.objs o.obj.toNat == o.old)
    · exact apply_st2 m o hM hs hk hw
    · exact apply_st1 m o hM hs hk hw
  · exact apply_st0 m o hM hs hk
theorem apply_i (m : Mach) (o : ROp) (hM : MachB m) : Fn Go.Proofs.Tryz.prog 66 [.a (eMach false m), .a (eROp o)] [.a [.d, .d], .a [.d, .d, .d, .d, .d, .d]] [.a (eMach true (applyOp m o).1), .a (eRes (applyOp m o).2.1), .c (.v (.bool (applyOp m o).2.2))] := by
  cases hs : (sessOf m o.client).isSome <;> cases hk : (o.kind == 1)
  · cases hw : (at' m.objs o.obj.toNat == o.old)
    · exact apply_if2 m o hM hs hk hw
    · exact apply_if1 m o hM hs hk hw
  · exact apply_if0 m o hM hs hk
  · cases hw : (at' m.objs o.obj.toNat == o.old)
    · exact apply_it2 m o hM hs hk hw
    · exact apply_it1 m o hM hs hk hw
  · exact apply_it0 m o hM hs hk
end
section
attribute [local go_sem] mdG_eq mdM toNat_pred setI List.length_set mdI_eq mdL_eq Bool.not_true Bool.not_false
theorem replay_s (l : List LEnt) (hl : l.length ≤ 1048576) : Fn Go.Proofs.Tryz.prog 57 [.c (.s false 7 (l.map eLEnt))] [.c .d] [.a (eMach true ((replay l).1)), .c (.v (.bool ((replay l).2)))] := by
  refine E.Fn.ev (n := 29) mdI false mix Go.Proofs.Tryz.func57 rfl (by simp [Go.Proofs.Tryz.f57]) Go.Proofs.Tryz.ntmps57 (by simp) (by kernel_rfl) (rs := [.cell 2 97, .tmp 3]) (tys := [97, 4]) rfl rfl (by simp [finOK, A.ts, OWN, ownE, ownT]) (by simp [resOK, A.ts, OWN, ownE, ownT, DE]) ?_
  simp only [go_sem]
  repeat' (first
    | simp only [IJS]
    | (refine E.CALL.use (newM_s) ?_ <;> (try simp only [go_sem]))
    | (refine E.CALL.use (isLog_s _ ?_) ?_ <;> (try simp only [go_sem]))
    | (refine E.CALL.use (apply_s _ _ ?_) ?_ <;> (try simp only [go_sem]))
    | (refine E.GB.use (fun h => ?_) (fun h => ?_) <;> (simp only [go_sem, h]) <;> (try simp only [HFS] at h))
    | exact E.INDEP.mk2 (by kernel_rfl)
    | exact E.RK.mk (by kernel_rfl)
    | (refine E.IX_map ?_ (fun hx => ?_); rotate_left; simp only [go_sem])
    | (refine E.loopR (ι := Nat × Nat × Mach) 5 rfl (fun ⟨i, v, y⟩ => [(.s 5, .v (.c (.v (vi i)))), (.k (4, 0), .e ⟨v, 2, [[.s true 1 (y.objs.map eInt), .s true 4 (y.sess.map eSess)]]⟩)]) [0, 2, 3, 4, 28] [(4, 0)] [] (fun ⟨i, v, y⟩ => l.length - i) (fun ⟨i, v, y⟩ => i ≤ l.length ∧ RepI l i y) mix (by kernel_rfl) (0, 1, newMach) ?_ ?_ (fun ⟨i, v, y⟩ ⟨hi, hQ⟩ => ?_); all_goals (try simp (maxSteps := 900000) only [go_sem]); all_goals (try dsimp only at hi hQ))
    | (refine E.NEXT.use [] (i + 1, v + 1, (applyOp y (at' l i).op).1) ?_ ?_ ?_; rotate_left 2; focus (simp (maxSteps := 900000) only [go_sem]; (repeat' (first | with_reducible rfl | exact E.RK.mk (by kernel_rfl) | apply And.intro | (push_cast; with_reducible rfl) | (refine E.int_c ?_; omega) | (simp only [go_sem]; done) | (rw [List.map_append]; rfl) | (simp; done) | (simp only [*]; done) | fail)); done))
    | apply And.intro
    | omega
    | refine congrArg (List.map _) ?_
    | (exact .start l; done)
    | (exact hQ.b (by omega); done)
    | (exact hQ.next (by omega); done)
    | ((rw [replay_n (by with_reducible assumption)] <;> rfl); done)
    | ((rw [hQ.fin (by omega) (by with_reducible assumption)] <;> rfl); done)
    | fail)
theorem resAt_s (l : List LEnt) (i : Int) (hl : l.length ≤ 1048576) : Fn Go.Proofs.Tryz.prog 77 [.c (.s false 7 (l.map eLEnt)), .c (.v (vi i))] [.c .d, .c .d] [.a (eRes ((resAt l i).1)), .c (.v (.bool ((resAt l i).2)))] := by
  refine E.Fn.ev (n := 43) mdI false mix Go.Proofs.Tryz.func77 rfl (by simp [Go.Proofs.Tryz.f77]) Go.Proofs.Tryz.ntmps77 (by simp) (by kernel_rfl) (rs := [.cell 4 34, .tmp 5]) (tys := [34, 4]) rfl rfl (by simp [finOK, A.ts, OWN, ownE, ownT]) (by simp [resOK, A.ts, OWN, ownE, ownT, DE]) ?_
  simp only [go_sem]
  repeat' (first
    | simp only [IJS]
    | (refine E.CALL.use (isLog_s _ ?_) ?_ <;> (try simp only [go_sem]))
    | (refine E.CALL.use (in_s _ _ _) ?_ <;> (try simp only [go_sem]))
    | (refine E.CALL.use (replay_s _ ?_) ?_ <;> (try simp only [go_sem]))
    | (refine E.CALL.use (apply_s _ _ ?_) ?_ <;> (try simp only [go_sem]))
    | (refine E.GB.use (fun h => ?_) (fun h => ?_) <;> (simp only [go_sem, h]) <;> (try simp only [HFS] at h))
    | exact E.INDEP.mk2 (by kernel_rfl)
    | (refine E.IX_map ?_ (fun hx => ?_); rotate_left; simp only [go_sem])
    | apply And.intro
    | omega
    | (simp only [List.length_take, List.length_drop, List.length_append, List.length_set, List.length_cons, List.length_nil]; omega)
    | ((have q := inR_of (by with_reducible assumption); omega); done)
    | (exact replay_B _ (by rw [List.length_take]; omega); done)
    | (simp [resAt, noRes, *]; done)
    | fail)
theorem replay_i (l : List LEnt) (hl : l.length ≤ 1048576) : Fn Go.Proofs.Tryz.prog 65 [.c (.s false 7 (l.map eLEnt))] [.c .d] [.a (eMach true ((replay l).1)), .c (.v (.bool ((replay l).2)))] := by
  refine E.Fn.ev (n := 28) mdI false mix Go.Proofs.Tryz.func65 rfl (by simp [Go.Proofs.Tryz.f65]) Go.Proofs.Tryz.ntmps65 (by simp) (by kernel_rfl) (rs := [.cell 2 97, .tmp 3]) (tys := [97, 4]) rfl rfl (by simp [finOK, A.ts, OWN, ownE, ownT]) (by simp [resOK, A.ts, OWN, ownE, ownT, DE]) ?_
  simp only [go_sem]
  repeat' (first
    | simp only [IJS]
    | (refine E.CALL.use (isLog_i _ ?_) ?_ <;> (try simp only [go_sem]))
    | (refine E.CALL.use (newM_i) ?_ <;> (try simp only [go_sem]))
    | (refine E.CALL.use (apply_i _ _ ?_) ?_ <;> (try simp only [go_sem]))
    | (refine E.GB.use (fun h => ?_) (fun h => ?_) <;> (simp only [go_sem, h]) <;> (try simp only [HFS] at h))
    | exact E.RK.mk (by kernel_rfl)
    | (refine E.IX_map ?_ (fun hx => ?_); rotate_left; simp only [go_sem])
    | (refine E.loopR (ι := Nat × Nat × Mach) 5 rfl (fun ⟨i, v, y⟩ => [(.s 14, .v (.c (.v (vi i)))), (.k (4, 0), .e ⟨v, 2, [[.s true 1 (y.objs.map eInt), .s true 4 (y.sess.map eSess)]]⟩)]) [2, 3, 4, 12, 13, 27] [(4, 0)] [] (fun ⟨i, v, y⟩ => l.length - i) (fun ⟨i, v, y⟩ => i ≤ l.length ∧ RepI l i y) mix (by kernel_rfl) (0, 1, newMach) ?_ ?_ (fun ⟨i, v, y⟩ ⟨hi, hQ⟩ => ?_); all_goals (try simp (maxSteps := 900000) only [go_sem]); all_goals (try dsimp only at hi hQ))
    | (refine E.NEXT.use [] (i + 1, v + 1, (applyOp y (at' l i).op).1) ?_ ?_ ?_; rotate_left 2; focus (simp (maxSteps := 900000) only [go_sem]; (repeat' (first | with_reducible rfl | exact E.RK.mk (by kernel_rfl) | apply And.intro | (push_cast; with_reducible rfl) | (refine E.int_c ?_; omega) | (simp only [go_sem]; done) | (rw [List.map_append]; rfl) | (simp; done) | (simp only [*]; done) | fail)); done))
    | apply And.intro
    | omega
    | refine congrArg (List.map _) ?_
    | (exact .start l; done)
    | (exact hQ.b (by omega); done)
    | (exact hQ.next (by omega); done)
    | ((rw [replay_n (by with_reducible assumption)] <;> rfl); done)
    | ((rw [hQ.fin (by omega) (by with_reducible assumption)] <;> rfl); done)
    | fail)
theorem resAt_i (l : List LEnt) (i : Int) (hl : l.length ≤ 1048576) : Fn Go.Proofs.Tryz.prog 79 [.c (.s false 7 (l.map eLEnt)), .c (.v (vi i))] [.c .d, .c .d] [.a (eRes ((resAt l i).1)), .c (.v (.bool ((resAt l i).2)))] := by
  refine E.Fn.ev (n := 43) mdI false mix Go.Proofs.Tryz.func79 rfl (by simp [Go.Proofs.Tryz.f79]) Go.Proofs.Tryz.ntmps79 (by simp) (by kernel_rfl) (rs := [.cell 4 34, .tmp 5]) (tys := [34, 4]) rfl rfl (by simp [finOK, A.ts, OWN, ownE, ownT]) (by simp [resOK, A.ts, OWN, ownE, ownT, DE]) ?_
  simp only [go_sem]
  repeat' (first
    | simp only [IJS]
    | (refine E.CALL.use (isLog_i _ ?_) ?_ <;> (try simp only [go_sem]))
    | (refine E.CALL.use (in_i _ _ _) ?_ <;> (try simp only [go_sem]))
    | (refine E.CALL.use (replay_i _ ?_) ?_ <;> (try simp only [go_sem]))
    | (refine E.CALL.use (apply_i _ _ ?_) ?_ <;> (try simp only [go_sem]))
    | (refine E.GB.use (fun h => ?_) (fun h => ?_) <;> (simp only [go_sem, h]) <;> (try simp only [HFS] at h))
    | exact E.INDEP.mk2 (by kernel_rfl)
    | (refine E.IX_map ?_ (fun hx => ?_); rotate_left; simp only [go_sem])
    | apply And.intro
    | omega
    | (simp only [List.length_take, List.length_drop, List.length_append, List.length_set, List.length_cons, List.length_nil]; omega)
    | ((have q := inR_of (by with_reducible assumption); omega); done)
    | (exact replay_B _ (by rw [List.length_take]; omega); done)
    | (simp [resAt, noRes, *]; done)
    | fail)
end
section
attribute [local go_sem] mdG_eq mdM toNat_pred setI List.length_set mdI_eq mdL_eq Bool.not_true Bool.not_false
theorem readF_s (s : Srv) (i : Int) (hB : SrvB s) : Fn Go.Proofs.Tryz.prog 36 [.a (eSrv false s), .c (.v (vi i))] [.a [.d, .d, .d, .d, .d, .d, .d, .d, .d, .d, .d, .d], .c .d] [.a (eRep (readFrom s i))] := by
  refine E.Fn.ev (n := 26) mdI false mix Go.Proofs.Tryz.func36 rfl (by simp [Go.Proofs.Tryz.f36]) Go.Proofs.Tryz.ntmps36 (by simp) (by kernel_rfl) (rs := [.cell 4 36]) (tys := [36]) rfl rfl (by simp [finOK, A.ts, OWN, ownE, ownT]) (by simp [resOK, A.ts, OWN, ownE, ownT, DE]) ?_
  simp only [go_sem]
  repeat' (first
    | simp only [IJS]
    | (refine E.CALL.use (comPart_s _ ?_) ?_ <;> (try simp only [go_sem]))
    | (refine E.CALL.use (replay_s _ ?_) ?_ <;> (try simp only [go_sem]))
    | (refine E.CALL.use (readO_s _ _ ?_) ?_ <;> (try simp only [go_sem]))
    | apply And.intro
    | omega
    | ((have q := comPart_len s; have q2 := hB.log; omega); done)
    | (exact replay_B _ (by have := comPart_len s; have := hB.log; omega); done)
    | (rfl; done)
    | fail)
theorem readF_i (s : Srv) (i : Int) (hB : SrvB s) : Fn Go.Proofs.Tryz.prog 45 [.a (eSrv false s), .c (.v (vi i))] [.a [.d, .d, .d, .d, .d, .d, .d, .d, .d, .d, .d, .d], .c .d] [.a (eRep (readFrom s i))] := by
  refine E.Fn.ev (n := 26) mdI false mix Go.Proofs.Tryz.func45 rfl (by simp [Go.Proofs.Tryz.f45]) Go.Proofs.Tryz.ntmps45 (by simp) (by kernel_rfl) (rs := [.cell 4 36]) (tys := [36]) rfl rfl (by simp [finOK, A.ts, OWN, ownE, ownT]) (by simp [resOK, A.ts, OWN, ownE, ownT, DE]) ?_
  simp only [go_sem]
  repeat' (first
    | simp only [IJS]
    | (refine E.CALL.use (comPart_i _ ?_) ?_ <;> (try simp only [go_sem]))
    | (refine E.CALL.use (replay_i _ ?_) ?_ <;> (try simp only [go_sem]))
    | (refine E.CALL.use (readO_i _ _ ?_) ?_ <;> (try simp only [go_sem]))
    | apply And.intro
    | omega
    | ((have q := comPart_len s; have q2 := hB.log; omega); done)
    | (exact replay_B _ (by have := comPart_len s; have := hB.log; omega); done)
    | (rfl; done)
    | fail)
end
section
attribute [local go_sem] mdG_eq mdM toNat_pred setI List.length_set mdI_eq mdL_eq Bool.not_true Bool.not_false
theorem leaseR_s (c : Clu) (id : Int) (obj : Int) (hB : CluB c) : Fn Go.Proofs.Tryz.prog 9 [.a (eClu false c), .c (.v (vi id)), .c (.v (vi obj))] [.a [.d, .d, .d, .d, .d, .d, .d, .d, .d, .d], .c .d, .c .d] [.a (eRep (leaseRead c id obj))] := by
  refine E.Fn.ev (n := 43) mdI false mix Go.Proofs.Tryz.func9 rfl (by simp [Go.Proofs.Tryz.f9]) Go.Proofs.Tryz.ntmps9 (by simp) (by kernel_rfl) (rs := [.cell 6 36]) (tys := [36]) rfl rfl (by simp [finOK, A.ts, OWN, ownE, ownT]) (by simp [resOK, A.ts, OWN, ownE, ownT, DE]) ?_
  simp only [go_sem]
  repeat' (first
    | simp only [IJS]
    | (refine E.CALL.use (upCode_s _ _ ?_) ?_ <;> (try simp only [go_sem]))
    | (refine E.CALL.use (in_s _ _ _) ?_ <;> (try simp only [go_sem]))
    | (refine E.CALL.use (primNow_s_B _ _ ?_) ?_ <;> (try simp only [go_sem]))
    | (refine E.CALL.use (canRead_s _ _ ?_) ?_ <;> (try simp only [go_sem]))
    | (refine E.CALL.use (readF_s _ _ ?_) ?_ <;> (try simp only [go_sem]))
    | (refine E.GB.use (fun h => ?_) (fun h => ?_) <;> (simp only [go_sem, h]) <;> (try simp only [HFS] at h))
    | (refine E.IX_map ?_ (fun hx => ?_); rotate_left; simp only [go_sem])
    | apply And.intro
    | omega
    | (have q := upCode_0 (c := c) (id := id) (by assumption); have q2 := hasSrv_of q.1; omega; done)
    | ((rw [lr_u (by with_reducible assumption)] <;> rfl); done)
    | ((rw [lr_o (by with_reducible assumption) (by with_reducible assumption)] <;> rfl); done)
    | ((rw [lr_p (by with_reducible assumption) (by with_reducible assumption) (prim_n (by with_reducible assumption))] <;> rfl); done)
    | ((rw [lr_c (by with_reducible assumption) (by with_reducible assumption) (by first | with_reducible assumption | exact prim_y (upCode_0 (by with_reducible assumption)).1 (by with_reducible assumption)) (by with_reducible assumption)] <;> rfl); done)
    | ((rw [lr_y (by with_reducible assumption) (by with_reducible assumption) (by first | with_reducible assumption | exact prim_y (upCode_0 (by with_reducible assumption)).1 (by with_reducible assumption)) (by with_reducible assumption)] <;> rfl); done)
    | (exact (CluB.at (by assumption) _); done)
    | fail)
theorem leaseR_i (c : Clu) (id : Int) (obj : Int) (hB : CluB c) : Fn Go.Proofs.Tryz.prog 11 [.a (eClu false c), .c (.v (vi id)), .c (.v (vi obj))] [.a [.d, .d, .d, .d, .d, .d, .d, .d, .d, .d], .c .d, .c .d] [.a (eRep (leaseRead c id obj))] := by
  refine E.Fn.ev (n := 40) mdI false mix Go.Proofs.Tryz.func11 rfl (by simp [Go.Proofs.Tryz.f11]) Go.Proofs.Tryz.ntmps11 (by simp) (by kernel_rfl) (rs := [.cell 6 36]) (tys := [36]) rfl rfl (by simp [finOK, A.ts, OWN, ownE, ownT]) (by simp [resOK, A.ts, OWN, ownE, ownT, DE]) ?_
  simp only [go_sem]
  repeat' (first
    | simp only [IJS]
    | (refine E.CALL.use (upCode_i _ _ ?_) ?_ <;> (try simp only [go_sem]))
    | (refine E.CALL.use (in_i _ _ _) ?_ <;> (try simp only [go_sem]))
    | (refine E.CALL.use (primAt_i _ _ ?_) ?_ <;> (try simp only [go_sem]))
    | (refine E.CALL.use (canRead_i _ _ ?_) ?_ <;> (try simp only [go_sem]))
    | (refine E.CALL.use (readF_i _ _ ?_) ?_ <;> (try simp only [go_sem]))
    | (refine E.GB.use (fun h => ?_) (fun h => ?_) <;> (simp only [go_sem, h]) <;> (try simp only [HFS] at h))
    | (refine E.IX_map ?_ (fun hx => ?_); rotate_left; simp only [go_sem])
    | apply And.intro
    | omega
    | (have q := upCode_0 (c := c) (id := id) (by assumption); have q2 := hasSrv_of q.1; omega; done)
    | ((rw [lr_u (by with_reducible assumption)] <;> rfl); done)
    | ((rw [lr_o (by with_reducible assumption) (by with_reducible assumption)] <;> rfl); done)
    | ((rw [lr_p (by with_reducible assumption) (by with_reducible assumption) (by with_reducible assumption)] <;> rfl); done)
    | ((rw [lr_c (by with_reducible assumption) (by with_reducible assumption) (by first | with_reducible assumption | exact prim_y (upCode_0 (by with_reducible assumption)).1 (by with_reducible assumption)) (by with_reducible assumption)] <;> rfl); done)
    | ((rw [lr_y (by with_reducible assumption) (by with_reducible assumption) (by first | with_reducible assumption | exact prim_y (upCode_0 (by with_reducible assumption)).1 (by with_reducible assumption)) (by with_reducible assumption)] <;> rfl); done)
    | (exact (CluB.at (by assumption) _); done)
    | fail)
theorem backupR_s (c : Clu) (id : Int) (obj : Int) (least : Int) (hB : CluB c) : Fn Go.Proofs.Tryz.prog 14 [.a (eClu false c), .c (.v (vi id)), .c (.v (vi obj)), .c (.v (vi least))] [.a [.d, .d, .d, .d, .d, .d, .d, .d, .d, .d], .c .d, .c .d, .c .d] [.a (eRep (backupRead c id obj least))] := by
  refine E.Fn.ev (n := 55) mdI false mix Go.Proofs.Tryz.func14 rfl (by simp [Go.Proofs.Tryz.f14]) Go.Proofs.Tryz.ntmps14 (by simp) (by kernel_rfl) (rs := [.cell 8 36]) (tys := [36]) rfl rfl (by simp [finOK, A.ts, OWN, ownE, ownT]) (by simp [resOK, A.ts, OWN, ownE, ownT, DE]) ?_
  simp only [go_sem]
  repeat' (first
    | simp only [IJS]
    | (refine E.CALL.use (upCode_s _ _ ?_) ?_ <;> (try simp only [go_sem]))
    | (refine E.CALL.use (role_s_B _ _ ?_) ?_ <;> (try simp only [go_sem]))
    | (refine E.CALL.use (in_s _ _ _) ?_ <;> (try simp only [go_sem]))
    | (refine E.CALL.use (readF_s _ _ ?_) ?_ <;> (try simp only [go_sem]))
    | (refine E.GB.use (fun h => ?_) (fun h => ?_) <;> (simp only [go_sem, h]) <;> (try simp only [HFS] at h))
    | (refine E.IX_map ?_ (fun hx => ?_); rotate_left; simp only [go_sem])
    | apply And.intro
    | omega
    | (have q := upCode_0 (c := c) (id := id) (by assumption); have q2 := hasSrv_of q.1; omega; done)
    | ((rw [br_u (by with_reducible assumption)] <;> rfl); done)
    | ((rw [br_o (by with_reducible assumption) (.inl (by with_reducible assumption))] <;> rfl); done)
    | ((rw [br_o (by with_reducible assumption) (.inr (by with_reducible assumption))] <;> rfl); done)
    | ((rw [br_p (by with_reducible assumption) (by with_reducible assumption) (by with_reducible assumption) (by first | with_reducible assumption | exact isRep_nr (srv_cv (hasSrv_of (upCode_0 (c := c) (id := id) (by with_reducible assumption)).1).1 (by have q := hasSrv_of (upCode_0 (c := c) (id := id) (by with_reducible assumption)).1; omega)) (by with_reducible assumption) (by with_reducible assumption))] <;> rfl); done)
    | ((rw [br_s (by with_reducible assumption) (by with_reducible assumption) (by with_reducible assumption) (by first | with_reducible assumption | exact isRep_role (.inl (by with_reducible assumption)) | exact isRep_role (.inr (by with_reducible assumption))) (by omega)] <;> rfl); done)
    | ((rw [br_y (by with_reducible assumption) (by with_reducible assumption) (by with_reducible assumption) (by first | with_reducible assumption | exact isRep_role (.inl (by with_reducible assumption)) | exact isRep_role (.inr (by with_reducible assumption))) (by omega)] <;> rfl); done)
    | (exact (CluB.at (by assumption) _); done)
    | (exact (CluB.at (by assumption) _).conf; done)
    | fail)
theorem backupR_i (c : Clu) (id : Int) (obj : Int) (least : Int) (hB : CluB c) : Fn Go.Proofs.Tryz.prog 15 [.a (eClu false c), .c (.v (vi id)), .c (.v (vi obj)), .c (.v (vi least))] [.a [.d, .d, .d, .d, .d, .d, .d, .d, .d, .d], .c .d, .c .d, .c .d] [.a (eRep (backupRead c id obj least))] := by
  refine E.Fn.ev (n := 55) mdI false mix Go.Proofs.Tryz.func15 rfl (by simp [Go.Proofs.Tryz.f15]) Go.Proofs.Tryz.ntmps15 (by simp) (by kernel_rfl) (rs := [.cell 8 36]) (tys := [36]) rfl rfl (by simp [finOK, A.ts, OWN, ownE, ownT]) (by simp [resOK, A.ts, OWN, ownE, ownT, DE]) ?_
  simp only [go_sem]
  repeat' (first
    | simp only [IJS]
    | (refine E.CALL.use (upCode_i _ _ ?_) ?_ <;> (try simp only [go_sem]))
    | (refine E.CALL.use (in_i _ _ _) ?_ <;> (try simp only [go_sem]))
    | (refine E.CALL.use (isRep_i _ _ ?_) ?_ <;> (try simp only [go_sem]))
    | (refine E.CALL.use (readF_i _ _ ?_) ?_ <;> (try simp only [go_sem]))
    | (refine E.GB.use (fun h => ?_) (fun h => ?_) <;> (simp only [go_sem, h]) <;> (try simp only [HFS] at h))
    | (refine E.IX_map ?_ (fun hx => ?_); rotate_left; simp only [go_sem])
    | apply And.intro
    | omega
    | (have q := upCode_0 (c := c) (id := id) (by assumption); have q2 := hasSrv_of q.1; omega; done)
    | ((rw [br_u (by with_reducible assumption)] <;> rfl); done)
    | ((rw [br_o (by with_reducible assumption) (.inl (by with_reducible assumption))] <;> rfl); done)
    | ((rw [br_o (by with_reducible assumption) (.inr (by with_reducible assumption))] <;> rfl); done)
    | ((rw [br_p (by with_reducible assumption) (by with_reducible assumption) (by with_reducible assumption) (by first | with_reducible assumption | exact isRep_nr (srv_cv (hasSrv_of (upCode_0 (c := c) (id := id) (by with_reducible assumption)).1).1 (by have q := hasSrv_of (upCode_0 (c := c) (id := id) (by with_reducible assumption)).1; omega)) (by with_reducible assumption) (by with_reducible assumption))] <;> rfl); done)
    | ((rw [br_s (by with_reducible assumption) (by with_reducible assumption) (by with_reducible assumption) (by first | with_reducible assumption | exact isRep_role (.inl (by with_reducible assumption)) | exact isRep_role (.inr (by with_reducible assumption))) (by omega)] <;> rfl); done)
    | ((rw [br_y (by with_reducible assumption) (by with_reducible assumption) (by with_reducible assumption) (by first | with_reducible assumption | exact isRep_role (.inl (by with_reducible assumption)) | exact isRep_role (.inr (by with_reducible assumption))) (by omega)] <;> rfl); done)
    | (exact (CluB.at (by assumption) _); done)
    | fail)
end
section
attribute [local go_sem] mdG_eq mdM toNat_pred setI List.length_set mdL_eq E.b_rem decE_self decN_self mkL_len mkL_at List.set_set E.rawCs_nil E.rawCs_s E.rawCs_v E.take_s markI_len markE_len
theorem markU_l (a : Clu) (k : Int) (hB : CluB a) (hk : 0 ≤ k) (hk2 : k ≤ 72057594037927936) : Fn Go.Proofs.Tryz.prog 19 [.a (eClu true a), .c (.v (vi k))] [.a [.d, .s true 12 ((markSs a.srvs k).map (eSrv true)), .s true 1 ((markI a.sides (endSs a.srvs k)).map eInt), .s true 4 ((markCs a.mast.confs (endSs a.srvs k + a.sides.length)).map (eConf true)), .d, .d, .d, .d, .d, .s true 3 ((markP a.plcs (endCs a.mast.confs (endSs a.srvs k + a.sides.length))).map ePlc)], .c .d] [.c (.v (vi (endU a k)))] := by
  refine E.Fn.evH (n := 22) Go.Proofs.Tryz.func19 rfl (by simp [Go.Proofs.Tryz.f19]) Go.Proofs.Tryz.ntmps19 (by simp) (rs := [.tmp 4]) (tys := [3]) rfl rfl (by simp [finOK, A.ts, OWN, ownE, ownT, DE]) (by simp [resOK, A.ts, OWN, ownE, ownT, DE]) (fun H rv hR => ?_)
  have hR0 : ∀ j sz es, (eClu true a)[j]? = some (.s true sz es) → (rv j).oneCell' = true := fun j sz es h => (hR j sz es h).one
  have r1 := hR 1 _ _ rfl
  have q1 := r1.one
  have r2 := hR 2 _ _ rfl
  have q2 := r2.one
  have r3 := hR 3 _ _ rfl
  have q3 := r3.one
  have r9 := hR 9 _ _ rfl
  have q9 := r9.one
  clear hR hR0
  simp only [go_sem]
  repeat' (first
    | (refine E.CALL.use (markSs_l _ _ ?_ ?_ ?_ ?_) ?_ <;> (try simp only [go_sem]))
    | (refine E.CALL.use (markI_l _ _ ?_ ?_ ?_) ?_ <;> (try simp only [go_sem]))
    | (refine E.CALL.use (markM_l _ _ ?_ ?_ ?_) ?_ <;> (try simp only [go_sem]))
    | (refine E.CALL.use (markP_l _ _ ?_ ?_ ?_) ?_ <;> (try simp only [go_sem]))
    | simp only [IJS]
    | (refine E.evh_seq ?_; refine E.evh_reg (id := 0) mdL false (by rfl) ?_; simp only [go_sem])
    | (refine E.evh_seq ?_; refine E.evh_conv (id := 1) mdL false 3 6 [some (0, 1)] (by rfl) ?_; dsimp only [List.take, List.drop]; simp only [go_sem])
    | (apply E.CVT.use1 (t := 6); exact rfl; exact rfl; exact r1; simp only [go_sem])
    | (refine E.evh_seq ?_; refine E.evh_conv (id := 2) mdL false 3 10 [some (0, 2)] (by rfl) ?_; dsimp only [List.take, List.drop]; simp only [go_sem])
    | (apply E.CVT.use1 (t := 10); exact rfl; exact rfl; exact r2; simp only [go_sem])
    | (refine E.evh_seq ?_; refine E.evh_conv (id := 3) mdL false 3 14 [some (0, 3), none] (by rfl) ?_; dsimp only [List.take, List.drop]; simp only [go_sem])
    | (apply E.CVT.useA (t := 14); exact rfl; exact ⟨_, _, _, rfl, rfl, r3, rfl, ⟨_, rfl, rfl⟩⟩; simp only [go_sem])
    | (refine E.evh_seq ?_; refine E.evh_conv (id := 4) mdL false 3 18 [some (0, 9)] (by rfl) ?_; dsimp only [List.take, List.drop]; simp only [go_sem])
    | (apply E.CVT.use1 (t := 18); exact rfl; exact rfl; exact r9; simp only [go_sem])
    | (refine E.evh_seq ?_; refine E.evh_reg (id := 5) mdL false (by rfl) ?_; simp only [go_sem])
    | (refine E.evh_ret ?_; simp only [go_sem])
    | apply And.intro
    | omega
    | (exact hB.srvs; done)
    | (assumption; done)
    | (exact CluB.m (by assumption); done)
    | (exact CluB.sd (by assumption); done)
    | (exact CluB.pl (by assumption); done)
    | (exact CluB.sl (by assumption); done)
    | (have g1 := hB.sl; have g2 := hB.sd; have g3 := hB.m.len; have g4 := hB.pl; have a1 := endSs_le a.srvs k hB.srvs; have b1 := endSs_ge a.srvs k; omega; done)
    | (have g1 := hB.sl; have g2 := hB.sd; have g3 := hB.m.len; have g4 := hB.pl; have a1 := endSs_le a.srvs k hB.srvs; have b1 := endSs_ge a.srvs k; have a2 := endCs_le a.mast.confs (endSs a.srvs k + a.sides.length) hB.m.confs; have b2 := endCs_ge a.mast.confs (endSs a.srvs k + a.sides.length); omega; done)
    | (rfl; done)
    | (exact markCs_len _ _; done)
    | (exact markSs_len _ _; done)
    | (exact markP_len _ _; done)
    | fail)
end
end Go.Abs

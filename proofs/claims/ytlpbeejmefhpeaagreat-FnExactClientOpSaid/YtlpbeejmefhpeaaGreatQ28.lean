/- Contracts of functions of the program, over the abstract machine, and facts for them. No condition. -/
import Derived.Test.YtlpbeejmefhpeaaGreatFacts
import Derived.Test.YtlpbeejmefhpeaaGreatPure25
import Derived.Test.YtlpbeejmefhpeaaGreatQ10
import Derived.Test.YtlpbeejmefhpeaaGreatQ13
import Derived.Test.YtlpbeejmefhpeaaGreatQ3
import Derived.Test.YtlpbeejmefhpeaaGreatQ4
import Derived.Test.YtlpbeejmefhpeaaGreatQ8
import Derived.Test.YtlpbeejmefhpeaaGreatQ95
set_option linter.unusedVariables false
set_option linter.unusedSimpArgs false
set_option linter.unnecessarySimpa false
set_option linter.constructorNameAsVariable false
set_option maxHeartbeats 4000000
set_option maxRecDepth 100000
namespace Go.Abs
open Go
attribute [local go_sem ↓] E.argsA_h E.wq_ret E.wq_req E.wq_bad E.wq_call E.wq_get E.wq_getO E.wq_getOs E.wq_getPs E.wq_fresh E.wq_anyNil E.wq_getR0 E.wq_getR E.wq_ixM E.wq_n E.wq_g E.wq_gn E.ev_skip E.ev_region E.ev_draw E.ev_seq E.ev_cond E.ev_block E.ev_exit E.ev_ret E.sq_n E.sq_e E.sq_r E.bl_n E.bl_e E.bl_r E.lp_n E.lp_e E.lp_r E.fk_n E.fk_r E.q_move E.q_assign E.q_pick E.q_bin E.q_binw E.q_un E.q_alloc E.q_box E.q_build E.q_buildS E.q_makeS E.q_load E.q_store E.q_nilCheck E.q_slice E.q_fieldAddr E.q_field E.q_indexAddr E.q_extract E.q_makeFunc E.q_call E.q_callT E.q_len E.q_append E.q_min E.q_max E.q_convert E.q_cap E.q_clear appendIM appendZM E.b_add E.b_sub E.b_mul E.b_eql E.b_neq E.b_lss E.b_leq E.b_gtr E.b_geq E.GO_tmp E.GO_int E.GO_bool E.GO_str E.GO_nil E.GO_func E.GOs_nil E.GOs_cons E.GPs_nil E.GPs_cons E.RW_nil E.RW_cons E.dstAt_0 E.dstAt_s E.keepL_nil E.keepL_s E.keepL_k E.rmN_nil E.rmN_cons E.memN_nil E.memN_cons E.memK_nil E.memK_cons E.ovl_nil E.ovl_kk E.ovl_sk E.ovl_ks E.ovl_ss ofL_s ofL_sk ofL_ks ofL_k ofL_nil E.CO_tmp E.CO_bool
attribute [local go_sem] E.RM_nil E.RM_cons E.kd_k E.sbr_eq E.s3_nil E.s3_s E.s3_k E.vr_c E.vr_a E.vr_p E.vr_q E.vr_t E.vr_f E.vr_u E.cr_r E.cr_v E.cr_b E.cr_n E.cr_u E.crs_nil E.crs_cons E.renK_nil E.renK_cons keysVs V.keys C.keys keysCs E.RG_nil E.RG_cons E.GV_v E.GB_true E.GB_false E.GX_b E.GG_t E.GG_f E.GG_u E.GU_some E.IX_0 E.IX_s E.CX_s E.FR_none E.EN_e E.GVB_b E.b_boolM E.b_nilM E.b_strM E.b_aggM
attribute [local go_sem] List.cons_append List.nil_append List.append_nil List.length_cons List.length_nil List.length_map List.length_append callM E.argsH_nil E.argsH_cons E.argH_c E.argH_a E.argH_f E.cellsH_nil E.cellsH_cons E.cellH_v E.cellH_b E.cellH_n E.cellH_nt E.cellH_u E.cellH_rt E.cellH_rf capsA capA callable backs backT resVs resV resC tupV lenV intV boolV getE getO entryL entryKs A.ts entryV entryC entryCs entryCap List.map_cons List.map_nil E.cut_n E.cut_r E.cutM plainL A.lastOK T.lastOK Bool.false_or A.capOK szEs szE szT SZ whole toB toC List.drop_zero List.take_zero List.take_succ_cons List.drop_succ_cons resultsM resultM outM outM1 convs conv finAs finA finT finTs Int.toNat_natCast A.plain T.plain List.isEmpty_nil List.isEmpty_cons Bool.or_true Bool.true_or Bool.and_self List.getElem?_cons_zero List.getElem?_cons_succ Option.bind_some Option.bind_none Option.bind Nat.zero_add Nat.add_zero OWN BOR ONE SCAL DE ETA E.take_rest Int.toNat_zero E.take_map E.drop_map E.take_len1 List.take_length E.app_map Int.natCast_zero Int.sub_zero Int.toNat_sub partCells V.cells convsL appendM srcM E.scalEs_nil E.scalEs_cons E.oneEs_nil E.oneEs_cons List.all_cons List.all_nil T.one Bool.and_true gone ownEs ownE ownT borEs borE borT setRow splice List.set_cons_zero List.set_cons_succ optI getOpt sliceM ptrTo app_ofL T.isV Value.oneCell' fillC zeroC spliceC allV eqVs eqV minV maxV setAt setCell holed List.dropLast List.getLast?_singleton Option.getD_some Option.isSome_some Option.isSome_none Bool.and_false Bool.true_and Bool.false_and Option.map_some Option.map_none false_or true_or or_true rowAt cellAt E.constV_nil E.constV_int E.constV_bool E.constV_str E.setCell_set E.setCell_len setRow setAt List.dropLast_cons_cons List.dropLast_singleton List.getLast?_cons_cons
attribute [local go_sem_proc ↓] reduceIte
attribute [local go_sem_proc] Nat.reduceEqDiff reduceCtorEq Nat.reduceAdd Nat.reduceMul
attribute [local irreducible] E.argsH E.argH E.cellsH E.cellH E.GV E.GB E.GX E.GG E.GU E.IX E.CX E.RW E.FR E.EN E.CALL E.GO E.GOs E.GPs E.GVB E.KD E.RM E.RG E.CO E.WQ E.EV E.SQ E.BL E.LP E.FK E.S3 E.RK E.NEXT E.NQ E.INDEP
section
attribute [local go_sem] mdG_eq mdM toNat_pred setI List.length_set eLI_eq eLE_eq
theorem comPart_i (s : Srv) (hB : SrvB s) : Fn Go.Proofs.Tryz.prog 92 [.a (eSrv false s)] [.a [.d, .d, .d, .d, .d, .d, .d, .d, .d, .d, .d, .d]] [.c (.s true 7 ((comPart s).map eLEnt))] := by
  refine E.Fn.ev (n := 30) mdG true mix Go.Proofs.Tryz.func92 rfl (by simp [Go.Proofs.Tryz.f92]) Go.Proofs.Tryz.ntmps92 (by simp) (by kernel_rfl) (rs := [.tmp 2]) (tys := [74]) rfl rfl (by simp [finOK, A.ts, OWN, ownE, ownT]) (by simp [resOK, A.ts, OWN, ownE, ownT, DE]) ?_
  simp only [go_sem, binM, intBin]
  repeat' (first
    | simp only [IJS]
    | (refine E.CALL.use (in_i _ _ _) ?_ <;> (try simp only [go_sem, binM, intBin]))
    | (refine E.CALL.use (cloneE_c _ ?_) ?_ <;> (try simp only [go_sem, binM, intBin]))
    | (refine E.GB.use (fun h => ?_) (fun h => ?_) <;> (simp only [go_sem, binM, intBin, h]) <;> (try simp only [HFS] at h))
    | apply And.intro
    | omega
    | refine congrArg (List.map _) ?_
    | (have q := com_ok (by omega) (by assumption) hB.log; have q2 := hB.log; omega; done)
    | (have q2 := hB.log; rw [List.length_take]; omega; done)
    | (simp [comPart, *]; done)
    | (have q := com_ok (by omega) (by assumption) hB.log; rw [q.2.2]; simp [comPart, *]; omega; done)
    | fail)
theorem comPart_s (s : Srv) (hB : SrvB s) : Fn Go.Proofs.Tryz.prog 85 [.a (eSrv false s)] [.a [.d, .d, .d, .d, .d, .d, .d, .d, .d, .d, .d, .d]] [.c (.s true 7 ((comPart s).map eLEnt))] := by
  refine E.Fn.ev (n := 30) mdG true mix Go.Proofs.Tryz.func85 rfl (by simp [Go.Proofs.Tryz.f85]) Go.Proofs.Tryz.ntmps85 (by simp) (by kernel_rfl) (rs := [.tmp 2]) (tys := [74]) rfl rfl (by simp [finOK, A.ts, OWN, ownE, ownT]) (by simp [resOK, A.ts, OWN, ownE, ownT, DE]) ?_
  simp only [go_sem, binM, intBin]
  repeat' (first
    | simp only [IJS]
    | (refine E.CALL.use (in_s _ _ _) ?_ <;> (try simp only [go_sem, binM, intBin]))
    | (refine E.CALL.use (copyL_s _ ?_) ?_ <;> (try simp only [go_sem, binM, intBin]))
    | (refine E.GB.use (fun h => ?_) (fun h => ?_) <;> (simp only [go_sem, binM, intBin, h]) <;> (try simp only [HFS] at h))
    | apply And.intro
    | omega
    | refine congrArg (List.map _) ?_
    | (have q := com_ok (by omega) (by assumption) hB.log; have q2 := hB.log; omega; done)
    | (have q2 := hB.log; rw [List.length_take]; omega; done)
    | (simp [comPart, *]; done)
    | (have q := com_ok (by omega) (by assumption) hB.log; rw [q.2.2]; simp [comPart, *]; omega; done)
    | fail)
theorem isRep_i (s : Srv) (id : Int) (hB : SrvB s) : Fn Go.Proofs.Tryz.prog 52 [.a (eSrv false s), .c (.v (vi id))] [.a [.d, .d, .d, .d, .d, .d, .d, .d, .d, .d, .d, .d], .c .d] [.c (.v (.bool (isRep s id)))] := by
  refine E.Fn.ev (n := 10) mdG false mix Go.Proofs.Tryz.func52 rfl (by simp [Go.Proofs.Tryz.f52]) Go.Proofs.Tryz.ntmps52 (by simp) (by kernel_rfl) (rs := [.tmp 4]) (tys := [4]) rfl rfl (by simp [finOK, A.ts, OWN, ownE, ownT]) (by simp [resOK, A.ts, OWN, ownE, ownT, DE]) ?_
  simp only [go_sem]
  repeat' (first
    | simp only [IJS]
    | (refine E.CALL.use (has_i _ _ ?_) ?_ <;> (try simp only [go_sem]))
    | apply And.intro
    | omega
    | (exact (SrvB.conf (by assumption)).r; done)
    | (rfl; done)
    | fail)
end
section
attribute [local go_sem] mdG_eq mdM toNat_pred setI List.length_set mdL_eq
theorem validM_s (m : Mach) (hM : MachB m) : Fn Go.Proofs.Tryz.prog 113 [.a (eMach false m)] [.a [.d, .d]] [.c (.v (.bool (validMach m)))] := by
  refine E.Fn.ev (n := 69) mdL false mix Go.Proofs.Tryz.func113 rfl (by simp [Go.Proofs.Tryz.f113]) Go.Proofs.Tryz.ntmps113 (by simp) (by kernel_rfl) (rs := [.tmp 2]) (tys := [4]) rfl rfl (by simp [finOK, A.ts, OWN, ownE, ownT]) (by simp [resOK, A.ts, OWN, ownE, ownT, DE]) ?_
  simp only [go_sem]
  repeat' (first
    | simp only [IJS]
    | (refine E.CALL.use (in_s _ _ _) ?_ <;> (try simp only [go_sem]))
    | (refine E.GB.use (fun h => ?_) (fun h => ?_) <;> (simp only [go_sem, h]) <;> (try simp only [HFS] at h))
    | exact E.INDEP.mk2 (by kernel_rfl)
    | exact E.RK.mk (by kernel_rfl)
    | (refine E.IX_map ?_ (fun hx => ?_); rotate_left; simp only [go_sem])
    | (refine E.loopR (ι := Nat) 2 rfl (fun j => [(.s 3, .v (.c (.v (vi j))))]) [1, 4, 5, 20, 21, 22, 23, 24, 25, 26, 27, 28, 29, 30, 31, 32, 33, 34, 35, 36, 37, 38, 39, 40, 41, 42, 43, 44, 45, 46, 47, 48, 49, 50, 51, 52, 53, 54, 55, 56, 57, 58, 59, 60, 61, 62, 63, 64, 65, 66, 67, 68] [] [] (fun j => m.objs.length - j) (fun j => j ≤ m.objs.length ∧ (m.objs.drop j).all (fun v => inR v 0 9) = m.objs.all (fun v => inR v 0 9)) mix (by kernel_rfl) 0 ?_ ?_ (fun j ⟨hj, hA⟩ => ?_); all_goals (try simp (maxSteps := 900000) only [go_sem]); all_goals (try dsimp only at hj hA))
    | (refine E.NEXT.use [] (j + 1) ?_ ?_ ?_; rotate_left 2; focus (simp (maxSteps := 900000) only [go_sem]; (repeat' (first | with_reducible rfl | exact E.RK.mk (by kernel_rfl) | apply And.intro | (push_cast; with_reducible rfl) | (refine E.int_c ?_; omega) | (simp only [go_sem]; done) | (rw [List.map_append]; rfl) | (simp; done) | (simp only [*]; done) | fail)); done))
    | (refine E.loopR (ι := Nat) 7 rfl (fun i => [(.s 4, .v (.c (.v (vi i))))]) [1, 65, 66, 67, 68] [] [] (fun i => m.sess.length - i) (fun i => i ≤ m.sess.length ∧ sessGo (prevS m.sess i) (m.sess.drop i) = sessGo none m.sess) mix (by kernel_rfl) 0 ?_ ?_ (fun i ⟨hi, hR⟩ => ?_); all_goals (try simp (maxSteps := 900000) only [go_sem]); all_goals (try dsimp only at hi hR))
    | (refine E.NEXT.use [] (i + 1) ?_ ?_ ?_; rotate_left 2; focus (simp (maxSteps := 900000) only [go_sem]; (repeat' (first | with_reducible rfl | exact E.RK.mk (by kernel_rfl) | apply And.intro | (push_cast; with_reducible rfl) | (refine E.int_c ?_; omega) | (simp only [go_sem]; done) | (rw [List.map_append]; rfl) | (simp; done) | (simp only [*]; done) | fail)); done))
    | apply And.intro
    | omega
    | (have q := hM.o; omega; done)
    | (have q := hM.s; omega; done)
    | (exact all_y (by omega) hA (by with_reducible assumption); done)
    | (rw [vm_g (all_n (by omega) hA (by with_reducible assumption))]; done)
    | (rw [vm_f (sess_n (by omega) hR (.inl (by with_reducible assumption)))]; done)
    | (rw [vm_f (sess_n (by omega) hR (.inr (.inl ⟨by omega, by omega⟩)))]; done)
    | (rw [vm_f (sess_n (by omega) hR (.inr (.inr (.inl (by with_reducible assumption)))))]; done)
    | (rw [vm_f (sess_n (by omega) hR (.inr (.inr (.inr (by with_reducible assumption)))))]; done)
    | (exact sess_y (by omega) hR (by with_reducible assumption) (.inl (by omega)) (by with_reducible assumption) (by with_reducible assumption); done)
    | (exact sess_y (by omega) hR (by with_reducible assumption) (.inr (by omega)) (by with_reducible assumption) (by with_reducible assumption); done)
    | (exact vm_e (all_e (by omega) hA) (sess_e (by omega) hR); done)
    | (rfl; done)
    | fail)
theorem notObj_c (x : Int) : Fn Go.Proofs.Tryz.prog 162 [.c (.v (vi x))] [.c .d] [.c (.v (.bool (!inR x 0 9)))] := by
  refine E.Fn.ev (n := 6) mdL false mix Go.Proofs.Tryz.func162 rfl (by simp [Go.Proofs.Tryz.f162]) Go.Proofs.Tryz.ntmps162 (by simp) (by kernel_rfl) (rs := [.tmp 2]) (tys := [4]) rfl rfl (by simp [finOK, A.ts, OWN, ownE, ownT]) (by simp [resOK, A.ts, OWN, ownE, ownT, DE]) ?_
  simp only [go_sem]
  repeat' (first
    | simp only [IJS]
    | (refine E.CALL.use (in_i _ _ _) ?_ <;> (try simp only [go_sem]))
    | fail)
theorem validM_i (m : Mach) (hM : MachB m) : Fn Go.Proofs.Tryz.prog 127 [.a (eMach false m)] [.a [.d, .d]] [.c (.v (.bool (validMach m)))] := by
  refine E.Fn.ev (n := 56) mdL false mix Go.Proofs.Tryz.func127 rfl (by simp [Go.Proofs.Tryz.f127]) Go.Proofs.Tryz.ntmps127 (by simp) (by kernel_rfl) (rs := [.tmp 2]) (tys := [4]) rfl rfl (by simp [finOK, A.ts, OWN, ownE, ownT]) (by simp [resOK, A.ts, OWN, ownE, ownT, DE]) ?_
  simp only [go_sem]
  repeat' (first
    | simp only [IJS]
    | (refine E.CALL.use (anyF_I0 m.objs (fun x => !inR x 0 9) 162 hM.o (fun x _ => notObj_c x)) ?_ <;> (try simp only [go_sem]))
    | (refine E.CALL.use (in_i _ _ _) ?_ <;> (try simp only [go_sem]))
    | (refine E.GB.use (fun h => ?_) (fun h => ?_) <;> (simp only [go_sem, h]) <;> (try simp only [HFS] at h))
    | exact E.INDEP.mk2 (by kernel_rfl)
    | exact E.RK.mk (by kernel_rfl)
    | (refine E.IX_map ?_ (fun hx => ?_); rotate_left; simp only [go_sem])
    | (refine E.loopR (ι := Nat) 4 rfl (fun i => [(.s 17, .v (.c (.v (vi i))))]) [1, 15, 16] [] [] (fun i => m.sess.length - i) (fun i => i ≤ m.sess.length ∧ sessGo (prevS m.sess i) (m.sess.drop i) = sessGo none m.sess) mix (by kernel_rfl) 0 ?_ ?_ (fun i ⟨hi, hR⟩ => ?_); all_goals (try simp (maxSteps := 900000) only [go_sem]); all_goals (try dsimp only at hi hR))
    | (refine E.NEXT.use [] (i + 1) ?_ ?_ ?_; rotate_left 2; focus (simp (maxSteps := 900000) only [go_sem]; (repeat' (first | with_reducible rfl | exact E.RK.mk (by kernel_rfl) | apply And.intro | (push_cast; with_reducible rfl) | (refine E.int_c ?_; omega) | (simp only [go_sem]; done) | (rw [List.map_append]; rfl) | (simp; done) | (simp only [*]; done) | fail)); done))
    | apply And.intro
    | omega
    | (have q := hM.s; omega; done)
    | (rw [vm_l (by with_reducible assumption)]; done)
    | (rw [vm_o (by with_reducible assumption)]; done)
    | (rw [vm_f (sess_n (by omega) hR (.inl (by with_reducible assumption)))]; done)
    | (rw [vm_f (sess_n (by omega) hR (.inr (.inl ⟨by omega, by omega⟩)))]; done)
    | (rw [vm_f (sess_n (by omega) hR (.inr (.inr (.inl (by with_reducible assumption)))))]; done)
    | (rw [vm_f (sess_n (by omega) hR (.inr (.inr (.inr (by with_reducible assumption)))))]; done)
    | (exact sess_y (by omega) hR (by with_reducible assumption) (.inl (by omega)) (by with_reducible assumption) (by with_reducible assumption); done)
    | (exact sess_y (by omega) hR (by with_reducible assumption) (.inr (by omega)) (by with_reducible assumption) (by with_reducible assumption); done)
    | (rw [vm_s (by omega) (vm_a (by with_reducible assumption)), sess_e (by omega) hR]; done)
    | (rfl; done)
    | fail)
theorem copyMh_s (m : Mach) (hM : MachB m) : Fn Go.Proofs.Tryz.prog 112 [.a (eMach false m)] [.a [.d, .d]] [.a (eMach true (m))] := by
  refine E.Fn.ev (n := 12) mdL false mix Go.Proofs.Tryz.func112 rfl (by simp [Go.Proofs.Tryz.f112]) Go.Proofs.Tryz.ntmps112 (by simp) (by kernel_rfl) (rs := [.cell 2 97]) (tys := [97]) rfl rfl (by simp [finOK, A.ts, OWN, ownE, ownT]) (by simp [resOK, A.ts, OWN, ownE, ownT, DE]) ?_
  simp only [go_sem]
  repeat' (first
    | simp only [IJS]
    | exact E.INDEP.mk2 (by kernel_rfl)
    | apply And.intro
    | omega
    | (have q := hM.o; omega; done)
    | (have q := hM.s; omega; done)
    | fail)
theorem copyMh_i (m : Mach) (hM : MachB m) : Fn Go.Proofs.Tryz.prog 125 [.a (eMach false m)] [.a [.d, .d]] [.a (eMach true (m))] := by
  refine E.Fn.ev (n := 10) mdL false mix Go.Proofs.Tryz.func125 rfl (by simp [Go.Proofs.Tryz.f125]) Go.Proofs.Tryz.ntmps125 (by simp) (by kernel_rfl) (rs := [.cell 2 97]) (tys := [97]) rfl rfl (by simp [finOK, A.ts, OWN, ownE, ownT]) (by simp [resOK, A.ts, OWN, ownE, ownT, DE]) ?_
  simp only [go_sem]
  repeat' (first
    | simp only [IJS]
    | (refine E.CALL.use (clone_c _ ?_) ?_ <;> (try simp only [go_sem]))
    | (refine E.CALL.use (cloneS_c _ ?_) ?_ <;> (try simp only [go_sem]))
    | exact E.INDEP.mk2 (by kernel_rfl)
    | apply And.intro
    | omega
    | (exact hM.o; done)
    | (exact hM.s; done)
    | fail)
theorem newM_s  : Fn Go.Proofs.Tryz.prog 110 [] [] [.a (eMach true (newMach))] := by
  refine E.Fn.ev (n := 3) mdL false mix Go.Proofs.Tryz.func110 rfl (by simp [Go.Proofs.Tryz.f110]) Go.Proofs.Tryz.ntmps110 (by simp) (by kernel_rfl) (rs := [.cell 0 97]) (tys := [97]) rfl rfl (by simp [finOK, A.ts, OWN, ownE, ownT]) (by simp [resOK, A.ts, OWN, ownE, ownT, DE]) ?_
  simp only [go_sem]
  repeat' (first
    | simp only [IJS]
    | apply And.intro
    | omega
    | (rfl; done)
    | fail)
theorem newM_i  : Fn Go.Proofs.Tryz.prog 124 [] [] [.a (eMach true (newMach))] := by
  refine E.Fn.ev (n := 3) mdL false mix Go.Proofs.Tryz.func124 rfl (by simp [Go.Proofs.Tryz.f124]) Go.Proofs.Tryz.ntmps124 (by simp) (by kernel_rfl) (rs := [.cell 0 97]) (tys := [97]) rfl rfl (by simp [finOK, A.ts, OWN, ownE, ownT]) (by simp [resOK, A.ts, OWN, ownE, ownT, DE]) ?_
  simp only [go_sem]
  repeat' (first
    | simp only [IJS]
    | apply And.intro
    | omega
    | (rfl; done)
    | fail)
theorem sessOf_s (m : Mach) (c : Int) (hM : MachB m) : Fn Go.Proofs.Tryz.prog 114 [.a (eMach false m), .c (.v (vi c))] [.a [.d, .d], .c .d] [.a (eSess (sessV m c)), .c (.v (.bool ((sessOf m c).isSome)))] := by
  refine E.Fn.ev (n := 28) mdL false mix Go.Proofs.Tryz.func114 rfl (by simp [Go.Proofs.Tryz.f114]) Go.Proofs.Tryz.ntmps114 (by simp) (by kernel_rfl) (rs := [.cell 4 145, .tmp 5]) (tys := [145, 4]) rfl rfl (by simp [finOK, A.ts, OWN, ownE, ownT]) (by simp [resOK, A.ts, OWN, ownE, ownT, DE]) ?_
  simp only [go_sem]
  repeat' (first
    | simp only [IJS]
    | (refine E.GB.use (fun h => ?_) (fun h => ?_) <;> (simp only [go_sem, h]) <;> (try simp only [HFS] at h))
    | exact E.RK.mk (by kernel_rfl)
    | (refine E.IX_map ?_ (fun hx => ?_); rotate_left; simp only [go_sem])
    | (refine E.loopR (ι := Nat) 2 rfl (fun i => [(.s 6, .v (.c (.v (vi i))))]) [1, 2, 4, 27] [] [] (fun i => m.sess.length - i) (fun i => i ≤ m.sess.length ∧ (m.sess.drop i).find? (fun s => s.client == c) = sessOf m c) mix (by kernel_rfl) 0 ?_ ?_ (fun i ⟨hi, hR⟩ => ?_); all_goals (try simp (maxSteps := 900000) only [go_sem]); all_goals (try dsimp only at hi hR))
    | (refine E.NEXT.use [] (i + 1) ?_ ?_ ?_; rotate_left 2; focus (simp (maxSteps := 900000) only [go_sem]; (repeat' (first | with_reducible rfl | exact E.RK.mk (by kernel_rfl) | apply And.intro | (push_cast; with_reducible rfl) | (refine E.int_c ?_; omega) | (simp only [go_sem]; done) | (rw [List.map_append]; rfl) | (simp; done) | (simp only [*]; done) | fail)); done))
    | apply And.intro
    | omega
    | (have q := hM.s; omega; done)
    | (rw [sessV_some (sessOf_hit (by omega) hR (by with_reducible assumption))]; done)
    | (rw [sessOf_hit (by omega) hR (by with_reducible assumption)]; rfl; done)
    | (rw [sessV_none (sessOf_end (by omega) hR)]; rfl; done)
    | (rw [sessOf_end (by omega) hR]; rfl; done)
    | (exact sessOf_drop (by omega) hR (by with_reducible assumption); done)
    | (rfl; done)
    | fail)
theorem readO_s (m : Mach) (i : Int) (hM : MachB m) : Fn Go.Proofs.Tryz.prog 86 [.a (eMach false m), .c (.v (vi i))] [.a [.d, .d], .c .d] [.c (.v (vi ((readObj m i).1))), .c (.v (.bool ((readObj m i).2)))] := by
  refine E.Fn.ev (n := 19) mdL false mix Go.Proofs.Tryz.func86 rfl (by simp [Go.Proofs.Tryz.f86]) Go.Proofs.Tryz.ntmps86 (by simp) (by kernel_rfl) (rs := [.tmp 4, .tmp 5]) (tys := [3, 4]) rfl rfl (by simp [finOK, A.ts, OWN, ownE, ownT]) (by simp [resOK, A.ts, OWN, ownE, ownT, DE]) ?_
  simp only [go_sem]
  repeat' (first
    | simp only [IJS]
    | (refine E.CALL.use (validM_s _ ?_) ?_ <;> (try simp only [go_sem]))
    | (refine E.CALL.use (in_s _ _ _) ?_ <;> (try simp only [go_sem]))
    | (refine E.GB.use (fun h => ?_) (fun h => ?_) <;> (simp only [go_sem, h]) <;> (try simp only [HFS] at h))
    | (refine E.IX_map ?_ (fun hx => ?_); rotate_left; simp only [go_sem])
    | apply And.intro
    | omega
    | ((have q := vm_of (by with_reducible assumption); have q2 := inR_of (by with_reducible assumption); omega); done)
    | (simp [readObj, *]; done)
    | fail)
theorem sessOf_i (m : Mach) (c : Int) (hM : MachB m) : Fn Go.Proofs.Tryz.prog 126 [.a (eMach false m), .c (.v (vi c))] [.a [.d, .d], .c .d] [.a (eSess (sessV m c)), .c (.v (.bool ((sessOf m c).isSome)))] := by
  refine E.Fn.ev (n := 22) mdL false mix Go.Proofs.Tryz.func126 rfl (by simp [Go.Proofs.Tryz.f126]) Go.Proofs.Tryz.ntmps126 (by simp) (by kernel_rfl) (rs := [.cell 4 145, .tmp 5]) (tys := [145, 4]) rfl rfl (by simp [finOK, A.ts, OWN, ownE, ownT]) (by simp [resOK, A.ts, OWN, ownE, ownT, DE]) ?_
  simp only [go_sem]
  repeat' (first
    | simp only [IJS]
    | (refine E.GB.use (fun h => ?_) (fun h => ?_) <;> (simp only [go_sem, h]) <;> (try simp only [HFS] at h))
    | exact E.RK.mk (by kernel_rfl)
    | (refine E.IX_map ?_ (fun hx => ?_); rotate_left; simp only [go_sem])
    | (refine E.loopR (ι := Nat) 2 rfl (fun i => [(.s 11, .v (.c (.v (vi i))))]) [1, 4, 9, 10, 21] [] [] (fun i => m.sess.length - i) (fun i => i ≤ m.sess.length ∧ (m.sess.drop i).find? (fun s => s.client == c) = sessOf m c) mix (by kernel_rfl) 0 ?_ ?_ (fun i ⟨hi, hR⟩ => ?_); all_goals (try simp (maxSteps := 900000) only [go_sem]); all_goals (try dsimp only at hi hR))
    | (refine E.NEXT.use [] (i + 1) ?_ ?_ ?_; rotate_left 2; focus (simp (maxSteps := 900000) only [go_sem]; (repeat' (first | with_reducible rfl | exact E.RK.mk (by kernel_rfl) | apply And.intro | (push_cast; with_reducible rfl) | (refine E.int_c ?_; omega) | (simp only [go_sem]; done) | (rw [List.map_append]; rfl) | (simp; done) | (simp only [*]; done) | fail)); done))
    | apply And.intro
    | omega
    | (have q := hM.s; omega; done)
    | (rw [sessV_some (sessOf_hit (by omega) hR (by with_reducible assumption))]; done)
    | (rw [sessOf_hit (by omega) hR (by with_reducible assumption)]; rfl; done)
    | (rw [sessV_none (sessOf_end (by omega) hR)]; rfl; done)
    | (rw [sessOf_end (by omega) hR]; rfl; done)
    | (exact sessOf_drop (by omega) hR (by with_reducible assumption); done)
    | (rfl; done)
    | fail)
theorem readO_i (m : Mach) (i : Int) (hM : MachB m) : Fn Go.Proofs.Tryz.prog 93 [.a (eMach false m), .c (.v (vi i))] [.a [.d, .d], .c .d] [.c (.v (vi ((readObj m i).1))), .c (.v (.bool ((readObj m i).2)))] := by
  refine E.Fn.ev (n := 19) mdL false mix Go.Proofs.Tryz.func93 rfl (by simp [Go.Proofs.Tryz.f93]) Go.Proofs.Tryz.ntmps93 (by simp) (by kernel_rfl) (rs := [.tmp 4, .tmp 5]) (tys := [3, 4]) rfl rfl (by simp [finOK, A.ts, OWN, ownE, ownT]) (by simp [resOK, A.ts, OWN, ownE, ownT, DE]) ?_
  simp only [go_sem]
  repeat' (first
    | simp only [IJS]
    | (refine E.CALL.use (validM_i _ ?_) ?_ <;> (try simp only [go_sem]))
    | (refine E.CALL.use (in_i _ _ _) ?_ <;> (try simp only [go_sem]))
    | (refine E.GB.use (fun h => ?_) (fun h => ?_) <;> (simp only [go_sem, h]) <;> (try simp only [HFS] at h))
    | (refine E.IX_map ?_ (fun hx => ?_); rotate_left; simp only [go_sem])
    | apply And.intro
    | omega
    | ((have q := vm_of (by with_reducible assumption); have q2 := inR_of (by with_reducible assumption); omega); done)
    | (simp [readObj, *]; done)
    | fail)
def mdI (f i : Nat) : Bool := if i = 0 then (if f = 128 then true else mdL f 0) else false
theorem mdI_eq (f i : Nat) : mdI f i = if i = 0 then (if f = 128 then true else mdL f 0) else false := rfl
end
section
attribute [local go_sem] mdG_eq mdM toNat_pred setI List.length_set mdI_eq mdL_eq Bool.not_true Bool.not_false
theorem apply_if0 (m : Mach) (o : ROp) (hM : MachB m) (hs : (sessOf m o.client).isSome = false) (hk : (o.kind == 1) = true) : Fn Go.Proofs.Tryz.prog 66 [.a (eMach false m), .a (eROp o)] [.a [.d, .d], .a [.d, .d, .d, .d, .d, .d]] [.a (eMach true ((applyOp m o).1)), .a (eRes ((applyOp m o).2.1)), .c (.v (.bool ((applyOp m o).2.2)))] := by
  refine E.Fn.ev (n := 120) mdI false mix Go.Proofs.Tryz.func66 rfl (by simp [Go.Proofs.Tryz.f66]) Go.Proofs.Tryz.ntmps66 (by simp) (by kernel_rfl) (rs := [.cell 4 97, .cell 5 34, .tmp 6]) (tys := [97, 34, 4]) rfl rfl (by simp [finOK, A.ts, OWN, ownE, ownT]) (by simp [resOK, A.ts, OWN, ownE, ownT, DE]) ?_
  simp only [go_sem, hs, hk]
  repeat' (first
    | simp only [IJS]
    | (refine E.CALL.use (ins_c m.sess _ k rfl noSess (by omega) hM.s) ?_ <;> (try simp only [go_sem, hs, hk]))
    | (refine E.CALL.use (copyMh_i _ ?_) ?_ <;> (try simp only [go_sem, hs, hk]))
    | (refine E.CALL.use (sessOf_i _ _ ?_) ?_ <;> (try simp only [go_sem, hs, hk]))
    | (refine E.CALL.use (validM_i _ ?_) ?_ <;> (try simp only [go_sem, hs, hk]))
    | (refine E.CALL.use (validOp_i _) ?_ <;> (try simp only [go_sem, hs, hk]))
    | (refine E.GB.use (fun h => ?_) (fun h => ?_) <;> (simp only [go_sem, hs, hk, h]) <;> (try simp only [HFS] at h))
    | exact E.INDEP.mk2 (by kernel_rfl)
    | exact E.RK.mk (by kernel_rfl)
    | (refine E.IX_map ?_ (fun hx => ?_); rotate_left; simp only [go_sem, hs, hk])
    | (refine E.loopR (ι := Nat) 12 rfl (fun k => [(.s 12, .v (.c (.v (vi k))))]) [3, 4, 5, 6, 7, 9, 11, 99, 100, 101, 102, 103, 104, 105, 106, 107, 108, 109, 110, 111, 112, 113, 114, 115, 116, 117, 118, 119] [] [] (fun k => m.sess.length - k) (fun k => k ≤ m.sess.length ∧ k + before (m.sess.drop k) o.client = before m.sess o.client) mix (by kernel_rfl) 0 ?_ ?_ (fun k ⟨hk0, hR⟩ => ?_); all_goals (try simp (maxSteps := 900000) only [go_sem, hs, hk]); all_goals (try dsimp only at hk0 hR))
    | (refine E.NEXT.use [] (k + 1) ?_ ?_ ?_; rotate_left 2; focus (simp (maxSteps := 900000) only [go_sem, hs, hk]; (repeat' (first | with_reducible rfl | exact E.RK.mk (by kernel_rfl) | apply And.intro | (push_cast; with_reducible rfl) | (refine E.int_c ?_; omega) | (simp only [go_sem]; done) | (rw [List.map_append]; rfl) | (simp; done) | (simp only [*]; done) | fail)); done))
    | apply And.intro
    | omega
    | (simp only [List.length_take, List.length_drop, List.length_append, List.length_set, List.length_cons, List.length_nil]; omega)
    | refine congrArg (List.map _) ?_
    | (have q := hM.s; omega; done)
    | (have q := vm_of (by with_reducible assumption); have q2 := op_in (by with_reducible assumption); omega; done)
    | (exact bef_y (by omega) hR (by with_reducible assumption); done)
    | ((rw [ap_v (by with_reducible assumption)] <;> rfl); done)
    | ((rw [ap_o (by with_reducible assumption)] <;> rfl); done)
    | ((rw [ap_newT (k := k) (by with_reducible assumption) (by with_reducible assumption) hs (by first | exact bef_n (by omega) hR (by omega) | exact bef_e (by omega) hR) (.inl (eq_of_beq hk))] <;> rfl); done)
    | ((rw [ap_newT (k := k) (by with_reducible assumption) (by with_reducible assumption) hs (by first | exact bef_n (by omega) hR (by omega) | exact bef_e (by omega) hR) (.inl (eq_of_beq hk))]; exact fin_newI m.sess k ⟨o.client, o.seq, ⟨true, at' m.objs o.obj.toNat⟩⟩ _ (by omega)); done)
    | (rfl; done)
    | fail)
end
section
attribute [local go_sem] mdG_eq mdM toNat_pred setI List.length_set mdI_eq mdL_eq Bool.not_true Bool.not_false
theorem apply_if1 (m : Mach) (o : ROp) (hM : MachB m) (hs : (sessOf m o.client).isSome = false) (hk : (o.kind == 1) = false) (hw : (at' m.objs o.obj.toNat == o.old) = true) : Fn Go.Proofs.Tryz.prog 66 [.a (eMach false m), .a (eROp o)] [.a [.d, .d], .a [.d, .d, .d, .d, .d, .d]] [.a (eMach true ((applyOp m o).1)), .a (eRes ((applyOp m o).2.1)), .c (.v (.bool ((applyOp m o).2.2)))] := by
  refine E.Fn.ev (n := 120) mdI false mix Go.Proofs.Tryz.func66 rfl (by simp [Go.Proofs.Tryz.f66]) Go.Proofs.Tryz.ntmps66 (by simp) (by kernel_rfl) (rs := [.cell 4 97, .cell 5 34, .tmp 6]) (tys := [97, 34, 4]) rfl rfl (by simp [finOK, A.ts, OWN, ownE, ownT]) (by simp [resOK, A.ts, OWN, ownE, ownT, DE]) ?_
  simp only [go_sem, hs, hk, hw]
  repeat' (first
    | simp only [IJS]
    | (refine E.CALL.use (ins_c m.sess _ k rfl noSess (by omega) hM.s) ?_ <;> (try simp only [go_sem, hs, hk, hw]))
    | (refine E.CALL.use (copyMh_i _ ?_) ?_ <;> (try simp only [go_sem, hs, hk, hw]))
    | (refine E.CALL.use (sessOf_i _ _ ?_) ?_ <;> (try simp only [go_sem, hs, hk, hw]))
    | (refine E.CALL.use (validM_i _ ?_) ?_ <;> (try simp only [go_sem, hs, hk, hw]))
    | (refine E.CALL.use (validOp_i _) ?_ <;> (try simp only [go_sem, hs, hk, hw]))
    | (refine E.GB.use (fun h => ?_) (fun h => ?_) <;> (simp only [go_sem, hs, hk, hw, h]) <;> (try simp only [HFS] at h))
    | exact E.INDEP.mk2 (by kernel_rfl)
    | exact E.RK.mk (by kernel_rfl)
    | (refine E.IX_map ?_ (fun hx => ?_); rotate_left; simp only [go_sem, hs, hk, hw])
    | (refine E.loopR (ι := Nat) 12 rfl (fun k => [(.s 12, .v (.c (.v (vi k))))]) [3, 4, 5, 6, 7, 9, 11, 99, 100, 101, 102, 103, 104, 105, 106, 107, 108, 109, 110, 111, 112, 113, 114, 115, 116, 117, 118, 119] [] [] (fun k => m.sess.length - k) (fun k => k ≤ m.sess.length ∧ k + before (m.sess.drop k) o.client = before m.sess o.client) mix (by kernel_rfl) 0 ?_ ?_ (fun k ⟨hk0, hR⟩ => ?_); all_goals (try simp (maxSteps := 900000) only [go_sem, hs, hk, hw]); all_goals (try dsimp only at hk0 hR))
    | (refine E.NEXT.use [] (k + 1) ?_ ?_ ?_; rotate_left 2; focus (simp (maxSteps := 900000) only [go_sem, hs, hk, hw]; (repeat' (first | with_reducible rfl | exact E.RK.mk (by kernel_rfl) | apply And.intro | (push_cast; with_reducible rfl) | (refine E.int_c ?_; omega) | (simp only [go_sem]; done) | (rw [List.map_append]; rfl) | (simp; done) | (simp only [*]; done) | fail)); done))
    | apply And.intro
    | omega
    | (simp only [List.length_take, List.length_drop, List.length_append, List.length_set, List.length_cons, List.length_nil]; omega)
    | refine congrArg (List.map _) ?_
    | (have q := hM.s; omega; done)
    | (have q := vm_of (by with_reducible assumption); have q2 := op_in (by with_reducible assumption); omega; done)
    | (exact bef_y (by omega) hR (by with_reducible assumption); done)
    | ((rw [ap_v (by with_reducible assumption)] <;> rfl); done)
    | ((rw [ap_o (by with_reducible assumption)] <;> rfl); done)
    | ((rw [ap_newT (k := k) (by with_reducible assumption) (by with_reducible assumption) hs (by first | exact bef_n (by omega) hR (by omega) | exact bef_e (by omega) hR) (.inr (eq_of_beq hw))] <;> rfl); done)
    | ((rw [ap_newT (k := k) (by with_reducible assumption) (by with_reducible assumption) hs (by first | exact bef_n (by omega) hR (by omega) | exact bef_e (by omega) hR) (.inr (eq_of_beq hw))]; exact fin_newI m.sess k ⟨o.client, o.seq, ⟨true, at' m.objs o.obj.toNat⟩⟩ _ (by omega)); done)
    | (rfl; done)
    | fail)
end
section
attribute [local go_sem] mdG_eq mdM toNat_pred setI List.length_set mdI_eq mdL_eq Bool.not_true Bool.not_false
theorem apply_if2 (m : Mach) (o : ROp) (hM : MachB m) (hs : (sessOf m o.client).isSome = false) (hk : (o.kind == 1) = false) (hw : (at' m.objs o.obj.toNat == o.old) = false) : Fn Go.Proofs.Tryz.prog 66 [.a (eMach false m), .a (eROp o)] [.a [.d, .d], .a [.d, .d, .d, .d, .d, .d]] [.a (eMach true ((applyOp m o).1)), .a (eRes ((applyOp m o).2.1)), .c (.v (.bool ((applyOp m o).2.2)))] := by
  refine E.Fn.ev (n := 120) mdI false mix Go.Proofs.Tryz.func66 rfl (by simp [Go.Proofs.Tryz.f66]) Go.Proofs.Tryz.ntmps66 (by simp) (by kernel_rfl) (rs := [.cell 4 97, .cell 5 34, .tmp 6]) (tys := [97, 34, 4]) rfl rfl (by simp [finOK, A.ts, OWN, ownE, ownT]) (by simp [resOK, A.ts, OWN, ownE, ownT, DE]) ?_
  simp only [go_sem, hs, hk, hw]
  repeat' (first
    | simp only [IJS]
    | (refine E.CALL.use (ins_c m.sess _ k rfl noSess (by omega) hM.s) ?_ <;> (try simp only [go_sem, hs, hk, hw]))
    | (refine E.CALL.use (copyMh_i _ ?_) ?_ <;> (try simp only [go_sem, hs, hk, hw]))
    | (refine E.CALL.use (sessOf_i _ _ ?_) ?_ <;> (try simp only [go_sem, hs, hk, hw]))
    | (refine E.CALL.use (validM_i _ ?_) ?_ <;> (try simp only [go_sem, hs, hk, hw]))
    | (refine E.CALL.use (validOp_i _) ?_ <;> (try simp only [go_sem, hs, hk, hw]))
    | (refine E.GB.use (fun h => ?_) (fun h => ?_) <;> (simp only [go_sem, hs, hk, hw, h]) <;> (try simp only [HFS] at h))
    | exact E.INDEP.mk2 (by kernel_rfl)
    | exact E.RK.mk (by kernel_rfl)
    | (refine E.IX_map ?_ (fun hx => ?_); rotate_left; simp only [go_sem, hs, hk, hw])
    | (refine E.loopR (ι := Nat) 12 rfl (fun k => [(.s 12, .v (.c (.v (vi k))))]) [3, 4, 5, 6, 7, 9, 11, 99, 100, 101, 102, 103, 104, 105, 106, 107, 108, 109, 110, 111, 112, 113, 114, 115, 116, 117, 118, 119] [] [] (fun k => m.sess.length - k) (fun k => k ≤ m.sess.length ∧ k + before (m.sess.drop k) o.client = before m.sess o.client) mix (by kernel_rfl) 0 ?_ ?_ (fun k ⟨hk0, hR⟩ => ?_); all_goals (try simp (maxSteps := 900000) only [go_sem, hs, hk, hw]); all_goals (try dsimp only at hk0 hR))
    | (refine E.NEXT.use [] (k + 1) ?_ ?_ ?_; rotate_left 2; focus (simp (maxSteps := 900000) only [go_sem, hs, hk, hw]; (repeat' (first | with_reducible rfl | exact E.RK.mk (by kernel_rfl) | apply And.intro | (push_cast; with_reducible rfl) | (refine E.int_c ?_; omega) | (simp only [go_sem]; done) | (rw [List.map_append]; rfl) | (simp; done) | (simp only [*]; done) | fail)); done))
    | apply And.intro
    | omega
    | (simp only [List.length_take, List.length_drop, List.length_append, List.length_set, List.length_cons, List.length_nil]; omega)
    | refine congrArg (List.map _) ?_
    | (have q := hM.s; omega; done)
    | (have q := vm_of (by with_reducible assumption); have q2 := op_in (by with_reducible assumption); omega; done)
    | (exact bef_y (by omega) hR (by with_reducible assumption); done)
    | ((rw [ap_v (by with_reducible assumption)] <;> rfl); done)
    | ((rw [ap_o (by with_reducible assumption)] <;> rfl); done)
    | ((rw [ap_newF (k := k) (by with_reducible assumption) (by with_reducible assumption) hs (by first | exact bef_n (by omega) hR (by omega) | exact bef_e (by omega) hR) (beq_eq_false_iff_ne.1 hk) (beq_eq_false_iff_ne.1 hw)] <;> rfl); done)
    | ((rw [ap_newF (k := k) (by with_reducible assumption) (by with_reducible assumption) hs (by first | exact bef_n (by omega) hR (by omega) | exact bef_e (by omega) hR) (beq_eq_false_iff_ne.1 hk) (beq_eq_false_iff_ne.1 hw)]; exact fin_newI m.sess k ⟨o.client, o.seq, ⟨false, at' m.objs o.obj.toNat⟩⟩ _ (by omega)); done)
    | (rfl; done)
    | fail)
end
end Go.Abs

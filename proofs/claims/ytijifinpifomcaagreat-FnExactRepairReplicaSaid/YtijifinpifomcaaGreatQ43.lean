/- Contracts of functions of the program, over the abstract machine, and facts for them. No condition. -/
import Derived.Test.YtijifinpifomcaaGreatFacts
import Derived.Test.YtijifinpifomcaaGreatPure17
import Derived.Test.YtijifinpifomcaaGreatQ10
import Derived.Test.YtijifinpifomcaaGreatQ3
import Derived.Test.YtijifinpifomcaaGreatQ8
set_option linter.unusedVariables false
set_option linter.unusedSimpArgs false
set_option linter.unnecessarySimpa false
set_option linter.constructorNameAsVariable false
set_option maxHeartbeats 4000000
set_option maxRecDepth 100000
namespace Go.Abs
open Go
attribute [local go_sem ↓] E.argsA_h E.wq_ret E.wq_req E.wq_bad E.wq_call E.wq_get E.wq_getO E.wq_getOs E.wq_getPs E.wq_fresh E.wq_anyNil E.wq_getR0 E.wq_getR E.wq_ixM E.wq_n E.wq_g E.wq_gn E.ev_skip E.ev_region E.ev_draw E.ev_seq E.ev_cond E.ev_block E.ev_exit E.ev_ret E.sq_n E.sq_e E.sq_r E.bl_n E.bl_e E.bl_r E.lp_n E.lp_e E.lp_r E.fk_n E.fk_r E.q_move E.q_assign E.q_pick E.q_bin E.q_binw E.q_un E.q_alloc E.q_box E.q_build E.q_buildS E.q_makeS E.q_load E.q_store E.q_nilCheck E.q_slice E.q_fieldAddr E.q_field E.q_indexAddr E.q_extract E.q_makeFunc E.q_call E.q_callT E.q_len E.q_append E.q_min E.q_max E.q_convert E.q_cap E.q_clear appendIM appendZM E.b_add E.b_sub E.b_mul E.b_eql E.b_neq E.b_lss E.b_leq E.b_gtr E.b_geq E.GO_tmp E.GO_int E.GO_bool E.GO_str E.GO_nil E.GO_func E.GOs_nil E.GOs_cons E.GPs_nil E.GPs_cons E.RW_nil E.RW_cons E.dstAt_0 E.dstAt_s E.keepL_nil E.keepL_s E.keepL_k E.rmN_nil E.rmN_cons E.memN_nil E.memN_cons E.memK_nil E.memK_cons E.ovl_nil E.ovl_kk E.ovl_sk E.ovl_ks E.ovl_ss ofL_s ofL_sk ofL_ks ofL_k ofL_nil E.CO_tmp E.CO_bool
attribute [local go_sem] E.RM_nil E.RM_cons E.kd_k E.sbr_eq E.s3_nil E.s3_s E.s3_k E.vr_c E.vr_a E.vr_p E.vr_q E.vr_t E.vr_f E.vr_u E.cr_r E.cr_v E.cr_b E.cr_n E.cr_u E.crs_nil E.crs_cons E.renK_nil E.renK_cons keysVs V.keys C.keys keysCs E.RG_nil E.RG_cons E.GV_v E.GB_true E.GB_false E.GX_b E.GG_t E.GG_f E.GG_u E.GU_some E.IX_0 E.IX_s E.CX_s E.FR_none E.EN_e E.GVB_b E.b_boolM E.b_nilM E.b_strM E.b_aggM
attribute [local go_sem] List.cons_append List.nil_append List.append_nil List.length_cons List.length_nil List.length_map List.length_append callM E.argsH_nil E.argsH_cons E.argH_c E.argH_a E.argH_f E.argH_p ptrH_s E.cellsH_nil E.cellsH_cons E.cellH_v E.cellH_b E.cellH_n E.cellH_nt E.cellH_u E.cellH_rt E.cellH_rf capsA capA callable backs backT resVs resV resC tupV lenV intV boolV getE getO entryL entryKs A.ts entryV entryC entryCs entryCap List.map_cons List.map_nil E.cut_n E.cut_r E.cutM plainL A.lastOK T.lastOK Bool.false_or A.capOK szEs szE szT SZ whole toB toC List.drop_zero List.take_zero List.take_succ_cons List.drop_succ_cons resultsM resultM outM outM1 convs conv finAs finA finT finTs Int.toNat_natCast A.plain T.plain List.isEmpty_nil List.isEmpty_cons Bool.or_true Bool.true_or Bool.and_self List.getElem?_cons_zero List.getElem?_cons_succ Option.bind_some Option.bind_none Option.bind Nat.zero_add Nat.add_zero OWN BOR ONE SCAL DE ETA E.take_rest Int.toNat_zero E.take_map E.drop_map E.take_len1 List.take_length E.app_map Int.natCast_zero Int.sub_zero Int.toNat_sub partCells V.cells convsL appendM srcM E.scalEs_nil E.scalEs_cons E.oneEs_nil E.oneEs_cons List.all_cons List.all_nil T.one Bool.and_true gone ownEs ownE ownT borEs borE borT setRow splice List.set_cons_zero List.set_cons_succ optI getOpt sliceM ptrTo app_ofL T.isV Value.oneCell' fillC zeroC spliceC allV eqVs eqV minV maxV setAt setCell holed List.dropLast List.getLast?_singleton Option.getD_some Option.isSome_some Option.isSome_none Bool.and_false Bool.true_and Bool.false_and Option.map_some Option.map_none false_or true_or or_true rowAt cellAt E.constV_nil E.constV_int E.constV_bool E.constV_str E.setCell_set E.setCell_len setRow setAt List.dropLast_cons_cons List.dropLast_singleton List.getLast?_cons_cons
attribute [local go_sem_proc ↓] reduceIte
attribute [local go_sem_proc] Nat.reduceEqDiff reduceCtorEq Nat.reduceAdd Nat.reduceMul
attribute [local irreducible] E.argsH E.argH E.cellsH E.cellH E.GV E.GB E.GX E.GG E.GU E.IX E.CX E.RW E.FR E.EN E.CALL E.GO E.GOs E.GPs E.GVB E.KD E.RM E.RG E.CO E.WQ E.EV E.SQ E.BL E.LP E.FK E.S3 E.RK E.NEXT E.NQ E.INDEP
section
attribute [local go_sem] mdG_eq mdM toNat_pred setI List.length_set mdL_eq E.b_rem decE_self decN_self
theorem szI_l (l : List Int) (left : Int) (hl : l.length ≤ maxLen) (h0 : 0 ≤ left) (h1 : left ≤ 1048576) : Fn Go.Proofs.Tryz.prog 29 [.c (.s false 1 (l.map eInt)), .c (.v (vi left))] [.c .d, .c .d] [.c (.v (vi (szR left l.length)))] := by
  refine E.Fn.ev (n := 12) mdL false mix Go.Proofs.Tryz.func29 rfl (by simp [Go.Proofs.Tryz.f29]) Go.Proofs.Tryz.ntmps29 (by simp) (by kernel_rfl) (rs := [.tmp 4]) (tys := [3]) rfl rfl (by simp [finOK, A.ts, OWN, ownE, ownT]) (by simp [resOK, A.ts, OWN, ownE, ownT, DE]) ?_
  simp only [go_sem]
  repeat' (first
    | simp only [IJS]
    | (refine E.GB.use (fun h => ?_) (fun h => ?_) <;> (simp only [go_sem, h]) <;> (try simp only [HFS] at h))
    | apply And.intro
    | omega
    | (have q : l.length ≤ 9223372036854775807 := hl; omega; done)
    | ((unfold szR; omega); done)
    | fail)
theorem szE_l (l : List LEnt) (left : Int) (hl : l.length ≤ maxLen) (h0 : 0 ≤ left) (h1 : left ≤ 1048576) : Fn Go.Proofs.Tryz.prog 131 [.c (.s false 7 (l.map eLEnt)), .c (.v (vi left))] [.c .d, .c .d] [.c (.v (vi (szR left l.length)))] := by
  refine E.Fn.ev (n := 12) mdL false mix Go.Proofs.Tryz.func131 rfl (by simp [Go.Proofs.Tryz.f131]) Go.Proofs.Tryz.ntmps131 (by simp) (by kernel_rfl) (rs := [.tmp 4]) (tys := [3]) rfl rfl (by simp [finOK, A.ts, OWN, ownE, ownT]) (by simp [resOK, A.ts, OWN, ownE, ownT, DE]) ?_
  simp only [go_sem]
  repeat' (first
    | simp only [IJS]
    | (refine E.GB.use (fun h => ?_) (fun h => ?_) <;> (simp only [go_sem, h]) <;> (try simp only [HFS] at h))
    | apply And.intro
    | omega
    | (have q : l.length ≤ 9223372036854775807 := hl; omega; done)
    | ((unfold szR; omega); done)
    | fail)
theorem szP_l (l : List Plc) (left : Int) (hl : l.length ≤ maxLen) (h0 : 0 ≤ left) (h1 : left ≤ 1048576) : Fn Go.Proofs.Tryz.prog 31 [.c (.s false 3 (l.map ePlc)), .c (.v (vi left))] [.c .d, .c .d] [.c (.v (vi (szR left l.length)))] := by
  refine E.Fn.ev (n := 12) mdL false mix Go.Proofs.Tryz.func31 rfl (by simp [Go.Proofs.Tryz.f31]) Go.Proofs.Tryz.ntmps31 (by simp) (by kernel_rfl) (rs := [.tmp 4]) (tys := [3]) rfl rfl (by simp [finOK, A.ts, OWN, ownE, ownT]) (by simp [resOK, A.ts, OWN, ownE, ownT, DE]) ?_
  simp only [go_sem]
  repeat' (first
    | simp only [IJS]
    | (refine E.GB.use (fun h => ?_) (fun h => ?_) <;> (simp only [go_sem, h]) <;> (try simp only [HFS] at h))
    | apply And.intro
    | omega
    | (have q : l.length ≤ 9223372036854775807 := hl; omega; done)
    | ((unfold szR; omega); done)
    | fail)
theorem szC_l (a : Conf) (left : Int) (hL : LnConf a) (h0 : 0 ≤ left) (h1 : left ≤ 1048576) : Fn Go.Proofs.Tryz.prog 130 [.a (eConf false a), .c (.v (vi left))] [.a [.d, .d, .d, .d], .c .d] [.c (.v (vi (szR left (sizeC a))))] := by
  refine E.Fn.ev (n := 18) mdL false mix Go.Proofs.Tryz.func130 rfl (by simp [Go.Proofs.Tryz.f130]) Go.Proofs.Tryz.ntmps130 (by simp) (by kernel_rfl) (rs := [.tmp 4]) (tys := [3]) rfl rfl (by simp [finOK, A.ts, OWN, ownE, ownT]) (by simp [resOK, A.ts, OWN, ownE, ownT, DE]) ?_
  simp only [go_sem]
  repeat' (first
    | simp only [IJS]
    | (refine E.CALL.use (szI_l _ _ ?_ ?_ ?_) ?_ <;> (try simp only [go_sem]))
    | (refine E.GB.use (fun h => ?_) (fun h => ?_) <;> (simp only [go_sem, h]) <;> (try simp only [HFS] at h))
    | apply And.intro
    | omega
    | (exact hL.1; done)
    | (exact hL.2; done)
    | ((simp only [szR, sizeC] at *; omega); done)
    | fail)
theorem szCs_l (l : List Conf) (left : Int) (hl : l.length ≤ maxLen) (hL : ∀ y ∈ l, LnConf y) (h0 : 0 ≤ left) (h1 : left ≤ 1048576) : Fn Go.Proofs.Tryz.prog 88 [.c (.s false 4 (l.map (eConf false))), .c (.v (vi left))] [.c .d, .c .d] [.c (.v (vi (szR left (l.length + sizeCs l))))] := by
  refine E.Fn.ev (n := 27) mdL false mix Go.Proofs.Tryz.func88 rfl (by simp [Go.Proofs.Tryz.f88]) Go.Proofs.Tryz.ntmps88 (by simp) (by kernel_rfl) (rs := [.tmp 4]) (tys := [3]) rfl rfl (by simp [finOK, A.ts, OWN, ownE, ownT]) (by simp [resOK, A.ts, OWN, ownE, ownT, DE]) ?_
  simp only [go_sem]
  repeat' (first
    | simp only [IJS]
    | (refine E.CALL.use (szC_l _ _ ?_ ?_ ?_) ?_ <;> (try simp only [go_sem]))
    | (refine E.GB.use (fun h => ?_) (fun h => ?_) <;> (simp only [go_sem, h]) <;> (try simp only [HFS] at h))
    | exact E.RK.mk (by kernel_rfl)
    | (refine E.IX_map ?_ (fun hx => ?_); rotate_left; simp only [go_sem])
    | (refine E.loopR (ι := Nat × Int) 5 rfl (fun ⟨i, lf⟩ => [(.s 5, .v (.c (.v (vi i)))), (.s 1, .v (.c (.v (vi lf))))]) [0, 26] [] [] (fun ⟨i, lf⟩ => l.length - i) (fun ⟨i, lf⟩ => i ≤ l.length ∧ 0 ≤ lf ∧ lf ≤ 1048576 ∧ szR lf (sizeCs (l.drop i)) = szR left (l.length + sizeCs l)) mix (by kernel_rfl) (0, left - l.length) ?_ ?_ (fun ⟨i, lf⟩ ⟨hi, hf0, hf1, hR⟩ => ?_); all_goals (try simp (maxSteps := 900000) only [go_sem]); all_goals (try dsimp only at hi hf0 hf1 hR))
    | (refine E.NEXT.use [] (i + 1, szR lf (sizeC (at' l i))) ?_ ?_ ?_; rotate_left 2; focus (simp (maxSteps := 900000) only [go_sem]; (repeat' (first | with_reducible rfl | exact E.RK.mk (by kernel_rfl) | apply And.intro | (push_cast; with_reducible rfl) | (refine E.int_c ?_; omega) | (simp only [go_sem]; done) | (rw [List.map_append]; rfl) | (simp; done) | (simp only [*]; done) | fail)); done))
    | apply And.intro
    | omega
    | (exact (hL _ (E.at_mem (by omega))).1; done)
    | (exact (hL _ (E.at_mem (by omega))).2; done)
    | (have q : l.length ≤ 9223372036854775807 := hl; omega; done)
    | (rw [drop_at (l := l) (i := i) (by omega)] at hR; simp only [sizeCs] at hR; have e1 := sizeC_ge (at' l i); have e2 := sizeCs_ge (l.drop (i + 1)); rw [← hR]; simp only [szR] at *; omega; done)
    | (have e1 := sizeC_ge (at' l i); simp only [szR] at *; omega; done)
    | (simp only [szR] at *; omega; done)
    | (have e2 := sizeCs_ge l; simp only [szR, List.drop_zero] at *; omega; done)
    | (rw [E.drop_end (l := l) (i := i) (by omega)] at hR; simp only [sizeCs] at hR; rw [← hR]; simp only [szR]; omega; done)
    | fail)
theorem szM_l (a : MLog) (left : Int) (hl : a.confs.length ≤ maxLen) (hL : ∀ y ∈ a.confs, LnConf y) (h0 : 0 ≤ left) (h1 : left ≤ 1048576) : Fn Go.Proofs.Tryz.prog 30 [.a (eMLog false a), .c (.v (vi left))] [.a [.d, .d], .c .d] [.c (.v (vi (szR left (sizeM a))))] := by
  refine E.Fn.ev (n := 12) mdL false mix Go.Proofs.Tryz.func30 rfl (by simp [Go.Proofs.Tryz.f30]) Go.Proofs.Tryz.ntmps30 (by simp) (by kernel_rfl) (rs := [.tmp 4]) (tys := [3]) rfl rfl (by simp [finOK, A.ts, OWN, ownE, ownT]) (by simp [resOK, A.ts, OWN, ownE, ownT, DE]) ?_
  simp only [go_sem]
  repeat' (first
    | simp only [IJS]
    | (refine E.CALL.use (szCs_l _ _ ?_ ?_ ?_ ?_) ?_ <;> (try simp only [go_sem]))
    | (refine E.GB.use (fun h => ?_) (fun h => ?_) <;> (simp only [go_sem, h]) <;> (try simp only [HFS] at h))
    | apply And.intro
    | omega
    | ((simp only [szR, sizeM] at *; omega); done)
    | fail)
theorem szS_l (a : Srv) (left : Int) (hL : LnSrv a) (h0 : 0 ≤ left) (h1 : left ≤ 1048576) : Fn Go.Proofs.Tryz.prog 87 [.a (eSrv false a), .c (.v (vi left))] [.a [.d, .d, .d, .d, .d, .d, .d, .d, .d, .d, .d, .d], .c .d] [.c (.v (vi (szR left (sizeS a))))] := by
  refine E.Fn.ev (n := 24) mdL false mix Go.Proofs.Tryz.func87 rfl (by simp [Go.Proofs.Tryz.f87]) Go.Proofs.Tryz.ntmps87 (by simp) (by kernel_rfl) (rs := [.tmp 4]) (tys := [3]) rfl rfl (by simp [finOK, A.ts, OWN, ownE, ownT]) (by simp [resOK, A.ts, OWN, ownE, ownT, DE]) ?_
  simp only [go_sem]
  repeat' (first
    | simp only [IJS]
    | (refine E.CALL.use (szC_l _ _ ?_ ?_ ?_) ?_ <;> (try simp only [go_sem]))
    | (refine E.CALL.use (szE_l _ _ ?_ ?_ ?_) ?_ <;> (try simp only [go_sem]))
    | (refine E.GB.use (fun h => ?_) (fun h => ?_) <;> (simp only [go_sem, h]) <;> (try simp only [HFS] at h))
    | apply And.intro
    | omega
    | (exact hL.1; done)
    | (exact hL.2.1; done)
    | (exact hL.2.2.1; done)
    | (exact hL.2.2.2; done)
    | ((have e1 := sizeC_ge a.conf; simp only [szR, sizeS] at *; omega); done)
    | fail)
theorem szSs_l (l : List Srv) (left : Int) (hl : l.length ≤ maxLen) (hL : ∀ y ∈ l, LnSrv y) (h0 : 0 ≤ left) (h1 : left ≤ 1048576) : Fn Go.Proofs.Tryz.prog 28 [.c (.s false 12 (l.map (eSrv false))), .c (.v (vi left))] [.c .d, .c .d] [.c (.v (vi (szR left (l.length + sizeSs l))))] := by
  refine E.Fn.ev (n := 27) mdL false mix Go.Proofs.Tryz.func28 rfl (by simp [Go.Proofs.Tryz.f28]) Go.Proofs.Tryz.ntmps28 (by simp) (by kernel_rfl) (rs := [.tmp 4]) (tys := [3]) rfl rfl (by simp [finOK, A.ts, OWN, ownE, ownT]) (by simp [resOK, A.ts, OWN, ownE, ownT, DE]) ?_
  simp only [go_sem]
  repeat' (first
    | simp only [IJS]
    | (refine E.CALL.use (szS_l _ _ ?_ ?_ ?_) ?_ <;> (try simp only [go_sem]))
    | (refine E.GB.use (fun h => ?_) (fun h => ?_) <;> (simp only [go_sem, h]) <;> (try simp only [HFS] at h))
    | exact E.RK.mk (by kernel_rfl)
    | (refine E.IX_map ?_ (fun hx => ?_); rotate_left; simp only [go_sem])
    | (refine E.loopR (ι := Nat × Int) 5 rfl (fun ⟨i, lf⟩ => [(.s 5, .v (.c (.v (vi i)))), (.s 1, .v (.c (.v (vi lf))))]) [0, 26] [] [] (fun ⟨i, lf⟩ => l.length - i) (fun ⟨i, lf⟩ => i ≤ l.length ∧ 0 ≤ lf ∧ lf ≤ 1048576 ∧ szR lf (sizeSs (l.drop i)) = szR left (l.length + sizeSs l)) mix (by kernel_rfl) (0, left - l.length) ?_ ?_ (fun ⟨i, lf⟩ ⟨hi, hf0, hf1, hR⟩ => ?_); all_goals (try simp (maxSteps := 900000) only [go_sem]); all_goals (try dsimp only at hi hf0 hf1 hR))
    | (refine E.NEXT.use [] (i + 1, szR lf (sizeS (at' l i))) ?_ ?_ ?_; rotate_left 2; focus (simp (maxSteps := 900000) only [go_sem]; (repeat' (first | with_reducible rfl | exact E.RK.mk (by kernel_rfl) | apply And.intro | (push_cast; with_reducible rfl) | (refine E.int_c ?_; omega) | (simp only [go_sem]; done) | (rw [List.map_append]; rfl) | (simp; done) | (simp only [*]; done) | fail)); done))
    | apply And.intro
    | omega
    | (exact (hL _ (E.at_mem (by omega))).1; done)
    | (exact (hL _ (E.at_mem (by omega))).2.1; done)
    | (exact (hL _ (E.at_mem (by omega))).2.2.1; done)
    | (exact (hL _ (E.at_mem (by omega))).2.2.2; done)
    | (have q : l.length ≤ 9223372036854775807 := hl; omega; done)
    | (rw [drop_at (l := l) (i := i) (by omega)] at hR; simp only [sizeSs] at hR; have e1 := sizeS_ge (at' l i); have e2 := sizeSs_ge (l.drop (i + 1)); rw [← hR]; simp only [szR] at *; omega; done)
    | (have e1 := sizeS_ge (at' l i); simp only [szR] at *; omega; done)
    | (simp only [szR] at *; omega; done)
    | (have e2 := sizeSs_ge l; simp only [szR, List.drop_zero] at *; omega; done)
    | (rw [E.drop_end (l := l) (i := i) (by omega)] at hR; simp only [sizeSs] at hR; rw [← hR]; simp only [szR]; omega; done)
    | fail)
theorem szU_l (a : Clu) (left : Int) (hL : LnClu a) (h0 : 0 ≤ left) (h1 : left ≤ 1048576) : Fn Go.Proofs.Tryz.prog 5 [.a (eClu false a), .c (.v (vi left))] [.a [.d, .d, .d, .d, .d, .d, .d, .d, .d, .d], .c .d] [.c (.v (vi (szR left (sizeU a))))] := by
  refine E.Fn.ev (n := 30) mdL false mix Go.Proofs.Tryz.func5 rfl (by simp [Go.Proofs.Tryz.f5]) Go.Proofs.Tryz.ntmps5 (by simp) (by kernel_rfl) (rs := [.tmp 4]) (tys := [3]) rfl rfl (by simp [finOK, A.ts, OWN, ownE, ownT]) (by simp [resOK, A.ts, OWN, ownE, ownT, DE]) ?_
  simp only [go_sem]
  repeat' (first
    | simp only [IJS]
    | (refine E.CALL.use (szSs_l _ _ ?_ ?_ ?_ ?_) ?_ <;> (try simp only [go_sem]))
    | (refine E.CALL.use (szI_l _ _ ?_ ?_ ?_) ?_ <;> (try simp only [go_sem]))
    | (refine E.CALL.use (szM_l _ _ ?_ ?_ ?_ ?_) ?_ <;> (try simp only [go_sem]))
    | (refine E.CALL.use (szP_l _ _ ?_ ?_ ?_) ?_ <;> (try simp only [go_sem]))
    | (refine E.GB.use (fun h => ?_) (fun h => ?_) <;> (simp only [go_sem, h]) <;> (try simp only [HFS] at h))
    | apply And.intro
    | omega
    | (exact hL.1.1; done)
    | (exact hL.1.2; done)
    | (exact hL.2.1; done)
    | (exact hL.2.2.2; done)
    | (exact hL.2.2.1.1; done)
    | (exact hL.2.2.1.2; done)
    | ((have e1 := sizeSs_ge a.srvs; have e2 := sizeM_ge a.mast; simp only [szR, sizeU] at *; omega); done)
    | fail)
end
section
attribute [local go_sem] mdG_eq mdM toNat_pred setI List.length_set mdL_eq E.b_rem decE_self decN_self
theorem heldI_l (l : List Int) (k : Int) (hl : l.length ≤ 1048576) (hk : 0 ≤ k) (hk2 : k ≤ 1152921504606846976) : Fn Go.Proofs.Tryz.prog 57 [.c (.s false 1 (l.map eInt)), .c (.v (vi k))] [.c .d, .c .d] [.c (.v (vi (heldI l k)))] := by
  refine E.Fn.ev (n := 21) mdL false mix Go.Proofs.Tryz.func57 rfl (by simp [Go.Proofs.Tryz.f57]) Go.Proofs.Tryz.ntmps57 (by simp) (by kernel_rfl) (rs := [.tmp 4]) (tys := [3]) rfl rfl (by simp [finOK, A.ts, OWN, ownE, ownT]) (by simp [resOK, A.ts, OWN, ownE, ownT, DE]) ?_
  simp only [go_sem]
  repeat' (first
    | simp only [IJS]
    | (refine E.GB.use (fun h => ?_) (fun h => ?_) <;> (simp only [go_sem, h]) <;> (try simp only [HFS] at h))
    | exact E.RK.mk (by kernel_rfl)
    | (refine E.IX_map ?_ (fun hx => ?_); rotate_left; simp only [go_sem])
    | (refine E.loopR (ι := Nat) 2 rfl (fun i => [(.s 5, .v (.c (.v (vi i)))), (.s 1, .v (.c (.v (vi (k + (i : Int))))))]) [0, 20] [] [] (fun i => l.length - i) (fun i => i ≤ l.length ∧ heldI (l.drop i) (k + i) = heldI l k) mix (by kernel_rfl) 0 ?_ ?_ (fun i ⟨hi, hR⟩ => ?_); all_goals (try simp (maxSteps := 900000) only [go_sem]); all_goals (try dsimp only at hi hR))
    | (refine E.NEXT.use [] (i + 1) ?_ ?_ ?_; rotate_left 2; focus (simp (maxSteps := 900000) only [go_sem]; (repeat' (first | with_reducible rfl | exact E.RK.mk (by kernel_rfl) | apply And.intro | (push_cast; with_reducible rfl) | (refine E.int_c ?_; omega) | (simp only [go_sem]; done) | (rw [List.map_append]; rfl) | (simp; done) | (simp only [*]; done) | fail)); done))
    | apply And.intro
    | omega
    | (rw [drop_at (l := l) (i := i) (by omega)] at hR; simp only [heldI, h, if_true, if_false] at hR; rw [← hR]; congr 1; omega; done)
    | (rw [drop_at (l := l) (i := i) (by omega)] at hR; simp only [heldI, h, if_true, if_false] at hR; rw [← hR]; done)
    | (rw [E.drop_end (l := l) (i := i) (by omega)] at hR; simp only [heldI] at hR; rw [← hR]; done)
    | (simp; done)
    | fail)
theorem heldE_l (l : List LEnt) (k : Int) (hl : l.length ≤ 1048576) (hk : 0 ≤ k) (hk2 : k ≤ 1152921504606846976) : Fn Go.Proofs.Tryz.prog 108 [.c (.s false 7 (l.map eLEnt)), .c (.v (vi k))] [.c .d, .c .d] [.c (.v (vi (heldE l k)))] := by
  refine E.Fn.ev (n := 82) mdL false mix Go.Proofs.Tryz.func108 rfl (by simp [Go.Proofs.Tryz.f108]) Go.Proofs.Tryz.ntmps108 (by simp) (by kernel_rfl) (rs := [.tmp 4]) (tys := [3]) rfl rfl (by simp [finOK, A.ts, OWN, ownE, ownT]) (by simp [resOK, A.ts, OWN, ownE, ownT, DE]) ?_
  simp only [go_sem]
  repeat' (first
    | simp only [IJS]
    | (refine E.GB.use (fun h => ?_) (fun h => ?_) <;> (simp only [go_sem, h]) <;> (try simp only [HFS] at h))
    | exact E.RK.mk (by kernel_rfl)
    | (refine E.IX_map ?_ (fun hx => ?_); rotate_left; simp only [go_sem])
    | (refine E.loopR (ι := Nat) 2 rfl (fun i => [(.s 5, .v (.c (.v (vi i)))), (.s 1, .v (.c (.v (vi (k + 7 * (i : Int))))))]) [0, 81] [] [] (fun i => l.length - i) (fun i => i ≤ l.length ∧ heldE (l.drop i) (k + 7 * i) = heldE l k) mix (by kernel_rfl) 0 ?_ ?_ (fun i ⟨hi, hR⟩ => ?_); all_goals (try simp (maxSteps := 900000) only [go_sem]); all_goals (try dsimp only at hi hR))
    | (refine E.NEXT.use [] (i + 1) ?_ ?_ ?_; rotate_left 2; focus (simp (maxSteps := 900000) only [go_sem]; (repeat' (first | with_reducible rfl | exact E.RK.mk (by kernel_rfl) | apply And.intro | (push_cast; with_reducible rfl) | (refine E.int_c ?_; omega) | (simp only [go_sem]; done) | (rw [List.map_append]; rfl) | (simp; done) | (simp only [*]; done) | fail)); done))
    | apply And.intro
    | omega
    | (rw [drop_at (l := l) (i := i) (by omega)] at hR; rw [heldE, if_neg (entK_not (by omega))] at hR; exact hR; done)
    | (rw [drop_at (l := l) (i := i) (by omega)] at hR; rw [heldE, if_pos (entK_of (by omega))] at hR; rw [← hR]; congr 1; omega; done)
    | (rw [E.drop_end (l := l) (i := i) (by omega)] at hR; simp only [heldE] at hR; rw [← hR]; done)
    | (simp; done)
    | fail)
theorem heldP_l (l : List Plc) (k : Int) (hl : l.length ≤ 1048576) (hk : 0 ≤ k) (hk2 : k ≤ 1152921504606846976) : Fn Go.Proofs.Tryz.prog 59 [.c (.s false 3 (l.map ePlc)), .c (.v (vi k))] [.c .d, .c .d] [.c (.v (vi (heldP l k)))] := by
  refine E.Fn.ev (n := 40) mdL false mix Go.Proofs.Tryz.func59 rfl (by simp [Go.Proofs.Tryz.f59]) Go.Proofs.Tryz.ntmps59 (by simp) (by kernel_rfl) (rs := [.tmp 4]) (tys := [3]) rfl rfl (by simp [finOK, A.ts, OWN, ownE, ownT]) (by simp [resOK, A.ts, OWN, ownE, ownT, DE]) ?_
  simp only [go_sem]
  repeat' (first
    | simp only [IJS]
    | (refine E.GB.use (fun h => ?_) (fun h => ?_) <;> (simp only [go_sem, h]) <;> (try simp only [HFS] at h))
    | exact E.RK.mk (by kernel_rfl)
    | (refine E.IX_map ?_ (fun hx => ?_); rotate_left; simp only [go_sem])
    | (refine E.loopR (ι := Nat) 2 rfl (fun i => [(.s 5, .v (.c (.v (vi i)))), (.s 1, .v (.c (.v (vi (k + 3 * (i : Int))))))]) [0, 39] [] [] (fun i => l.length - i) (fun i => i ≤ l.length ∧ heldP (l.drop i) (k + 3 * i) = heldP l k) mix (by kernel_rfl) 0 ?_ ?_ (fun i ⟨hi, hR⟩ => ?_); all_goals (try simp (maxSteps := 900000) only [go_sem]); all_goals (try dsimp only at hi hR))
    | (refine E.NEXT.use [] (i + 1) ?_ ?_ ?_; rotate_left 2; focus (simp (maxSteps := 900000) only [go_sem]; (repeat' (first | with_reducible rfl | exact E.RK.mk (by kernel_rfl) | apply And.intro | (push_cast; with_reducible rfl) | (refine E.int_c ?_; omega) | (simp only [go_sem]; done) | (rw [List.map_append]; rfl) | (simp; done) | (simp only [*]; done) | fail)); done))
    | apply And.intro
    | omega
    | (rw [drop_at (l := l) (i := i) (by omega)] at hR; rw [heldP, if_neg (plcK_not (by omega))] at hR; exact hR; done)
    | (rw [drop_at (l := l) (i := i) (by omega)] at hR; rw [heldP, if_pos (plcK_of (by omega))] at hR; rw [← hR]; congr 1; omega; done)
    | (rw [E.drop_end (l := l) (i := i) (by omega)] at hR; simp only [heldP] at hR; rw [← hR]; done)
    | (simp; done)
    | fail)
end
section
attribute [local go_sem] mdG_eq mdM toNat_pred setI List.length_set mdL_eq E.b_rem decE_self decN_self mkL_len mkL_at List.set_set
theorem markI_l (l : List Int) (k : Int) (hl : l.length ≤ 1048576) (hk : 0 ≤ k) (hk2 : k ≤ 1152921504606846976) : Fn Go.Proofs.Tryz.prog 53 [.c (.s true 1 (l.map eInt)), .c (.v (vi k))] [.c (.s true 1 ((markI l k).map eInt)), .c .d] [.c (.v (vi (k + l.length)))] := by
  refine E.Fn.ev (n := 19) mdL false mix Go.Proofs.Tryz.func53 rfl (by simp [Go.Proofs.Tryz.f53]) Go.Proofs.Tryz.ntmps53 (by simp) (by kernel_rfl) (rs := [.tmp 4]) (tys := [3]) rfl rfl (by simp [finOK, A.ts, OWN, ownE, ownT]) (by simp [resOK, A.ts, OWN, ownE, ownT, DE]) ?_
  simp only [go_sem]
  repeat' (first
    | simp only [IJS]
    | (refine E.GB.use (fun h => ?_) (fun h => ?_) <;> (simp only [go_sem, h]) <;> (try simp only [HFS] at h))
    | exact E.RK.mk (by kernel_rfl)
    | (refine E.IX_map ?_ (fun hx => ?_); rotate_left; simp only [go_sem])
    | (refine E.loopR (ι := Nat) 2 rfl (fun i => [(.s 5, .v (.c (.v (vi i)))), (.s 1, .v (.c (.v (vi (mkK (fun _ k => k + 1) l k i))))), (.k (0, 0), .e ⟨0, 1, (mkL (fun _ k => k) (fun _ k => k + 1) l k i).map eInt⟩)]) [0, 4, 18] [(0, 0)] [] (fun i => l.length - i) (fun i => i ≤ l.length ∧ 0 ≤ mkK (fun _ k => k + 1) l k i) mix (by kernel_rfl) 0 ?_ ?_ (fun i ⟨hi, hk0⟩ => ?_); all_goals (try simp (maxSteps := 900000) only [go_sem]); all_goals (try dsimp only at hi hk0))
    | (refine E.NEXT.use [] (i + 1) ?_ ?_ ?_; rotate_left 2; focus (simp (maxSteps := 900000) only [go_sem]; (repeat' (first | with_reducible rfl | exact E.RK.mk (by kernel_rfl) | apply And.intro | (push_cast; with_reducible rfl) | (refine E.int_c ?_; omega) | (simp only [go_sem]; done) | (rw [List.map_append]; rfl) | (simp; done) | (simp only [*]; done) | (rfl; done) | (rw [mkL, List.map_set] <;> rfl; done) | fail)); done))
    | apply And.intro
    | omega
    | refine congrArg (List.map _) ?_
    | (rw [mkL_len]; omega; done)
    | (have e : i = l.length := (by omega); subst e; rw [mkL_I]; done)
    | (have e : i = l.length := (by omega); subst e; rw [mkK_I]; done)
    | (rw [mkK_I]; omega; done)
    | (rfl; done)
    | fail)
theorem markE_l (l : List LEnt) (k : Int) (hl : l.length ≤ 1048576) (hk : 0 ≤ k) (hk2 : k ≤ 1152921504606846976) : Fn Go.Proofs.Tryz.prog 106 [.c (.s true 7 (l.map eLEnt)), .c (.v (vi k))] [.c (.s true 7 ((markE l k).map eLEnt)), .c .d] [.c (.v (vi (k + 7 * l.length)))] := by
  refine E.Fn.ev (n := 68) mdL false mix Go.Proofs.Tryz.func106 rfl (by simp [Go.Proofs.Tryz.f106]) Go.Proofs.Tryz.ntmps106 (by simp) (by kernel_rfl) (rs := [.tmp 4]) (tys := [3]) rfl rfl (by simp [finOK, A.ts, OWN, ownE, ownT]) (by simp [resOK, A.ts, OWN, ownE, ownT, DE]) ?_
  simp only [go_sem]
  repeat' (first
    | simp only [IJS]
    | (refine E.GB.use (fun h => ?_) (fun h => ?_) <;> (simp only [go_sem, h]) <;> (try simp only [HFS] at h))
    | exact E.RK.mk (by kernel_rfl)
    | (refine E.IX_map ?_ (fun hx => ?_); rotate_left; simp only [go_sem])
    | (refine E.IX_set ?_ ?_; rotate_left; simp only [go_sem])
    | (refine E.loopR (ι := Nat) 2 rfl (fun i => [(.s 5, .v (.c (.v (vi i)))), (.s 1, .v (.c (.v (vi (mkK (fun _ k => k + 7) l k i))))), (.k (0, 0), .e ⟨0, 7, (mkL (fun _ k => entK k) (fun _ k => k + 7) l k i).map eLEnt⟩)]) [0, 4, 67] [(0, 0)] [] (fun i => l.length - i) (fun i => i ≤ l.length ∧ 0 ≤ mkK (fun _ k => k + 7) l k i) mix (by kernel_rfl) 0 ?_ ?_ (fun i ⟨hi, hk0⟩ => ?_); all_goals (try simp (maxSteps := 900000) only [go_sem]); all_goals (try dsimp only at hi hk0))
    | (refine E.NEXT.use [] (i + 1) ?_ ?_ ?_; rotate_left 2; focus (simp (maxSteps := 900000) only [go_sem]; (repeat' (first | with_reducible rfl | exact E.RK.mk (by kernel_rfl) | apply And.intro | (push_cast; with_reducible rfl) | (refine E.int_c ?_; omega) | (simp only [go_sem]; done) | (rw [List.map_append]; rfl) | (simp; done) | (simp only [*]; done) | (rfl; done) | (rw [mkL, List.map_set] <;> rfl; done) | (rw [mkK]; refine E.int_c ?_; omega; done) | fail)); done))
    | apply And.intro
    | omega
    | refine congrArg (List.map _) ?_
    | (rw [mkL_len]; omega; done)
    | (have e : i = l.length := (by omega); subst e; rw [mkL_E]; done)
    | (have e : i = l.length := (by omega); subst e; rw [mkK_E]; done)
    | (rw [mkK_E]; omega; done)
    | (rfl; done)
    | fail)
theorem markP_l (l : List Plc) (k : Int) (hl : l.length ≤ 1048576) (hk : 0 ≤ k) (hk2 : k ≤ 1152921504606846976) : Fn Go.Proofs.Tryz.prog 55 [.c (.s true 3 (l.map ePlc)), .c (.v (vi k))] [.c (.s true 3 ((markP l k).map ePlc)), .c .d] [.c (.v (vi (k + 3 * l.length)))] := by
  refine E.Fn.ev (n := 34) mdL false mix Go.Proofs.Tryz.func55 rfl (by simp [Go.Proofs.Tryz.f55]) Go.Proofs.Tryz.ntmps55 (by simp) (by kernel_rfl) (rs := [.tmp 4]) (tys := [3]) rfl rfl (by simp [finOK, A.ts, OWN, ownE, ownT]) (by simp [resOK, A.ts, OWN, ownE, ownT, DE]) ?_
  simp only [go_sem]
  repeat' (first
    | simp only [IJS]
    | (refine E.GB.use (fun h => ?_) (fun h => ?_) <;> (simp only [go_sem, h]) <;> (try simp only [HFS] at h))
    | exact E.RK.mk (by kernel_rfl)
    | (refine E.IX_map ?_ (fun hx => ?_); rotate_left; simp only [go_sem])
    | (refine E.IX_set ?_ ?_; rotate_left; simp only [go_sem])
    | (refine E.loopR (ι := Nat) 2 rfl (fun i => [(.s 5, .v (.c (.v (vi i)))), (.s 1, .v (.c (.v (vi (mkK (fun _ k => k + 3) l k i))))), (.k (0, 0), .e ⟨0, 3, (mkL (fun _ k => plcK k) (fun _ k => k + 3) l k i).map ePlc⟩)]) [0, 4, 33] [(0, 0)] [] (fun i => l.length - i) (fun i => i ≤ l.length ∧ 0 ≤ mkK (fun _ k => k + 3) l k i) mix (by kernel_rfl) 0 ?_ ?_ (fun i ⟨hi, hk0⟩ => ?_); all_goals (try simp (maxSteps := 900000) only [go_sem]); all_goals (try dsimp only at hi hk0))
    | (refine E.NEXT.use [] (i + 1) ?_ ?_ ?_; rotate_left 2; focus (simp (maxSteps := 900000) only [go_sem]; (repeat' (first | with_reducible rfl | exact E.RK.mk (by kernel_rfl) | apply And.intro | (push_cast; with_reducible rfl) | (refine E.int_c ?_; omega) | (simp only [go_sem]; done) | (rw [List.map_append]; rfl) | (simp; done) | (simp only [*]; done) | (rfl; done) | (rw [mkL, List.map_set] <;> rfl; done) | (rw [mkK]; refine E.int_c ?_; omega; done) | fail)); done))
    | apply And.intro
    | omega
    | refine congrArg (List.map _) ?_
    | (rw [mkL_len]; omega; done)
    | (have e : i = l.length := (by omega); subst e; rw [mkL_P]; done)
    | (have e : i = l.length := (by omega); subst e; rw [mkK_P]; done)
    | (rw [mkK_P]; omega; done)
    | (rfl; done)
    | fail)
end
section
attribute [local go_sem] mdG_eq mdM toNat_pred setI List.length_set mdL_eq E.b_rem decE_self decN_self mkL_len mkL_at List.set_set E.rawCs_nil E.rawCs_s E.rawCs_v E.take_s markI_len markE_len
theorem markCs_l (l : List Conf) (k : Int) (hl : l.length ≤ 1048576) (hb : ∀ x ∈ l, ConfB x) (hk : 0 ≤ k) (hk2 : k ≤ 288230376151711744) : Fn Go.Proofs.Tryz.prog 107 [.c (.s true 4 (l.map (eConf true))), .c (.v (vi k))] [.c (.s true 4 ((markCs l k).map (eConf true))), .c .d] [.c (.v (vi (endCs l k)))] := by
  refine E.Fn.ev (n := 41) mdL false mix Go.Proofs.Tryz.func107 rfl (by simp [Go.Proofs.Tryz.f107]) Go.Proofs.Tryz.ntmps107 (by simp) (by kernel_rfl) (rs := [.tmp 4]) (tys := [3]) rfl rfl (by simp [finOK, A.ts, OWN, ownE, ownT]) (by simp [resOK, A.ts, OWN, ownE, ownT, DE]) ?_
  simp only [go_sem]
  repeat' (first
    | simp only [IJS]
    | (refine E.CALL.use (markI_l _ _ ?_ ?_ ?_) ?_ <;> (try simp only [go_sem]))
    | (refine E.GB.use (fun h => ?_) (fun h => ?_) <;> (simp only [go_sem, h]) <;> (try simp only [HFS] at h))
    | exact E.RK.mk (by kernel_rfl)
    | (refine E.IX_map ?_ (fun hx => ?_); rotate_left; simp only [go_sem])
    | (refine E.IX_set ?_ ?_; rotate_left; simp only [go_sem])
    | (refine E.loopR (ι := Nat × Nat) 2 rfl (fun ⟨i, v⟩ => [(.s 5, .v (.c (.v (vi i)))), (.s 1, .v (.c (.v (vi (mkK (fun c k => endC c (k + 1 + 1)) l k i))))), (.k (0, 0), .e ⟨v, 4, (mkL (confK) (fun c k => endC c (k + 1 + 1)) l k i).map (eConf true)⟩)]) [0, 4, 40] [(0, 0)] [] (fun ⟨i, v⟩ => l.length - i) (fun ⟨i, v⟩ => i ≤ l.length ∧ 0 ≤ mkK (fun c k => endC c (k + 1 + 1)) l k i) mix (by kernel_rfl) (0, 0) ?_ ?_ (fun ⟨i, v⟩ ⟨hi, hk0⟩ => ?_); all_goals (try simp (maxSteps := 900000) only [go_sem]); all_goals (try dsimp only at hi hk0))
    | (refine E.NEXT.use [] (i + 1, v + 2) ?_ ?_ ?_; rotate_left 2; focus (simp (maxSteps := 900000) only [go_sem]; (repeat' (first | with_reducible rfl | exact E.RK.mk (by kernel_rfl) | apply And.intro | (push_cast; with_reducible rfl) | (refine E.int_c ?_; omega) | (simp only [go_sem]; done) | (rw [List.map_append]; rfl) | (simp; done) | (simp only [*]; done) | (rfl; done) | (rw [mkL, List.map_set] <;> rfl; done) | fail)); done))
    | (have hw : i < (List.map (eConf true) (mkL (confK) (fun c k => endC c (k + 1 + 1)) l k i)).length := (by simp only [List.length_map, mkL_len]; omega); simp only [List.getElem?_set_self hw, go_sem])
    | apply And.intro
    | omega
    | refine congrArg (List.map _) ?_
    | (have e : i = l.length := (by omega); subst e; rw [mkL_C]; done)
    | (have e : i = l.length := (by omega); subst e; rw [mkK_C]; done)
    | (exact (hb _ (E.at_mem (by omega))).r; done)
    | (exact (hb _ (E.at_mem (by omega))).w; done)
    | (have g1 := mkK_Cle hb k i (by omega); omega; done)
    | (have g1 := mkK_Cle hb k i (by omega); have g2 := (hb (at' l i) (E.at_mem (by omega))).r; omega; done)
    | (rfl; done)
    | (exact hk; done)
    | (have g1 := mkK_Cge l k (i + 1); omega; done)
    | fail)
end
end Go.Abs

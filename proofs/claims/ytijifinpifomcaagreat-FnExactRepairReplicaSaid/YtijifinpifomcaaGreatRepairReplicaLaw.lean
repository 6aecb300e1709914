/- The program's RepairReplica answers as the reference's does, for every input. No condition. -/
import Derived.Test.YtijifinpifomcaaGreatEntry
import Derived.Test.YtijifinpifomcaaGreatRepairReplicaRow
import Derived.Test.YtijifinpifomcaaGreatQ105
import Derived.Test.YtijifinpifomcaaGreatQ3
import Derived.Test.YtijifinpifomcaaGreatQ10
import Derived.Test.YtijifinpifomcaaGreatQ17
import Derived.Test.YtijifinpifomcaaGreatQ17
import Derived.Test.YtijifinpifomcaaGreatQ41
import Derived.Test.YtijifinpifomcaaGreatQ43
import Derived.Test.YtijifinpifomcaaGreatQ55
import Derived.Test.YtijifinpifomcaaGreatQ55
import Derived.Test.YtijifinpifomcaaGreatQ8
set_option linter.unusedVariables false
set_option linter.unusedSimpArgs false
set_option linter.unnecessarySimpa false
set_option linter.constructorNameAsVariable false
set_option maxHeartbeats 4000000
set_option maxRecDepth 100000
namespace Go.Abs
open Go
attribute [local go_sem ↓] E.argsA_h E.wq_ret E.wq_req E.wq_bad E.wq_call E.wq_get E.wq_getO E.wq_getOs E.wq_getPs E.wq_fresh E.wq_anyNil E.wq_getR0 E.wq_getR E.wq_ixM E.wq_n E.wq_g E.wq_gn E.ev_skip E.ev_region E.ev_draw E.ev_seq E.ev_cond E.ev_block E.ev_exit E.ev_ret E.sq_n E.sq_e E.sq_r E.bl_n E.bl_e E.bl_r E.lp_n E.lp_e E.lp_r E.fk_n E.fk_r E.q_move E.q_assign E.q_pick E.q_bin E.q_binw E.q_un E.q_alloc E.q_box E.q_build E.q_buildS E.q_makeS E.q_load E.q_store E.q_nilCheck E.q_slice E.q_fieldAddr E.q_field E.q_indexAddr E.q_extract E.q_makeFunc E.q_call E.q_callT E.q_len E.q_append E.q_min E.q_max E.q_convert E.q_cap E.q_clear appendIM appendZM E.b_add E.b_sub E.b_mul E.b_eql E.b_neq E.b_lss E.b_leq E.b_gtr E.b_geq E.GO_tmp E.GO_int E.GO_bool E.GO_str E.GO_nil E.GO_func E.GOs_nil E.GOs_cons E.GPs_nil E.GPs_cons E.RW_nil E.RW_cons E.dstAt_0 E.dstAt_s E.keepL_nil E.keepL_s E.keepL_k E.rmN_nil E.rmN_cons E.memN_nil E.memN_cons E.memK_nil E.memK_cons E.ovl_nil E.ovl_kk E.ovl_sk E.ovl_ks E.ovl_ss ofL_s ofL_sk ofL_ks ofL_k ofL_nil E.CO_tmp E.CO_bool
attribute [local go_sem] E.RM_nil E.RM_cons E.kd_k E.sbr_eq E.s3_nil E.s3_s E.s3_k E.vr_c E.vr_a E.vr_p E.vr_q E.vr_t E.vr_f E.vr_u E.cr_r E.cr_v E.cr_b E.cr_n E.cr_u E.crs_nil E.crs_cons E.renK_nil E.renK_cons keysVs V.keys C.keys keysCs E.RG_nil E.RG_cons E.GV_v E.GB_true E.GB_false E.GX_b E.GG_t E.GG_f E.GG_u E.GU_some E.IX_0 E.IX_s E.CX_s E.FR_none E.EN_e E.GVB_b E.b_boolM E.b_nilM E.b_strM E.b_aggM
attribute [local go_sem] List.cons_append List.nil_append List.append_nil List.length_cons List.length_nil List.length_map List.length_append callM E.argsH_nil E.argsH_cons E.argH_c E.argH_a E.argH_f E.argH_p ptrH_s E.cellsH_nil E.cellsH_cons E.cellH_v E.cellH_b E.cellH_n E.cellH_nt E.cellH_u E.cellH_rt E.cellH_rf capsA capA callable backs backT resVs resV resC tupV lenV intV boolV getE getO entryL entryKs A.ts entryV entryC entryCs entryCap List.map_cons List.map_nil E.cut_n E.cut_r E.cutM plainL A.lastOK T.lastOK Bool.false_or A.capOK szEs szE szT SZ whole toB toC List.drop_zero List.take_zero List.take_succ_cons List.drop_succ_cons resultsM resultM outM outM1 convs conv finAs finA finT finTs Int.toNat_natCast A.plain T.plain List.isEmpty_nil List.isEmpty_cons Bool.or_true Bool.true_or Bool.and_self List.getElem?_cons_zero List.getElem?_cons_succ Option.bind_some Option.bind_none Option.bind Nat.zero_add Nat.add_zero OWN BOR ONE SCAL DE ETA E.take_rest Int.toNat_zero E.take_map E.drop_map E.take_len1 List.take_length E.app_map Int.natCast_zero Int.sub_zero Int.toNat_sub partCells V.cells convsL appendM srcM E.scalEs_nil E.scalEs_cons E.oneEs_nil E.oneEs_cons List.all_cons List.all_nil T.one Bool.and_true gone ownEs ownE ownT borEs borE borT setRow splice List.set_cons_zero List.set_cons_succ optI getOpt sliceM ptrTo app_ofL T.isV Value.oneCell' fillC zeroC spliceC allV eqVs eqV minV maxV setAt setCell holed List.dropLast List.getLast?_singleton Option.getD_some Option.isSome_some Option.isSome_none Bool.and_false Bool.true_and Bool.false_and Option.map_some Option.map_none false_or true_or or_true rowAt cellAt E.constV_nil E.constV_int E.constV_bool E.constV_str E.setCell_set E.setCell_len setRow setAt List.dropLast_cons_cons List.dropLast_singleton List.getLast?_cons_cons
attribute [local go_sem_proc ↓] reduceIte
attribute [local go_sem_proc] Nat.reduceEqDiff reduceCtorEq Nat.reduceAdd Nat.reduceMul
attribute [local irreducible] E.argsH E.argH E.cellsH E.cellH E.GV E.GB E.GX E.GG E.GU E.IX E.CX E.RW E.FR E.EN E.CALL E.GO E.GOs E.GPs E.GVB E.KD E.RM E.RG E.CO E.WQ E.EV E.SQ E.BL E.LP E.FK E.S3 E.RK E.NEXT E.NQ E.INDEP
attribute [local go_sem] mdG_eq mdM toNat_pred setI List.length_set mdL_eq E.b_rem beq_self_eq_true Bool.not_true bne_self_eq_false heldU_m heldSv_m heldI_m endU_eq endSv_eq heldE_m heldC_m markE_take markE_len
theorem law_RepairReplica (c : Clu) (f : Int) (t : Int) (hL : LnClu c) : Fn Go.Proofs.Tryz.prog 3 [.a (eClu false c), .c (.v (vi f)), .c (.v (vi t))] [.a [.d, .d, .d, .d, .d, .d, .d, .d, .d, .d], .c .d, .c .d] [.c (.v (.bool (true)))] := by
  refine E.Fn.ev (n := 106) mdL false mix Go.Proofs.Tryz.func3 rfl (by simp [Go.Proofs.Tryz.f3]) Go.Proofs.Tryz.ntmps3 (by simp) (by kernel_rfl) (rs := [.tmp 6]) (tys := [4]) rfl rfl (by simp [finOK, A.ts, OWN, ownE, ownT]) (by simp [resOK, A.ts, OWN, ownE, ownT, DE]) ?_
  simp only [go_sem]
  repeat' (first
    | simp only [IJS]
    | (refine E.CALL.use (heldU_x _ _ _ _ _ _ _ _ _ _ _ ?_ ?_ ?_) ?_ <;> (try simp only [go_sem]))
    | (refine E.CALL.use (szU_l _ _ ?_ ?_ ?_) ?_ <;> (try simp only [go_sem]))
    | (refine E.CALL.use (toU_l _ ?_) ?_ <;> (try simp only [go_sem]))
    | (refine E.CALL.use (repairR_s _ _ _ ?_) ?_ <;> (try simp only [go_sem]))
    | (refine E.CALL.use (repairR_i _ _ _ ?_) ?_ <;> (try simp only [go_sem]))
    | (refine E.CALL.use (eqU_l _ _ ?_ ?_) ?_ <;> (try simp only [go_sem]))
    | (refine E.CALL.use (markU_l _ _ ?_ ?_ ?_) ?_ <;> (try simp only [go_sem]))
    | (refine E.GB.use (fun h => ?_) (fun h => ?_) <;> (simp only [go_sem, h]) <;> (try simp only [HFS] at h))
    | exact E.INDEP.mk2 (by kernel_rfl)
    | apply And.intro
    | omega
    | (exact absurd trivial h; done)
    | (exact hL.1.1; done)
    | (exact hL.1.2; done)
    | (exact hL.2.1; done)
    | (exact hL.2.2.2; done)
    | (exact hL.2.2.1.1; done)
    | (exact hL.2.2.1.2; done)
    | (exact cluB_of (szR_ok (by omega)); done)
    | (exact repairR_B (cluB_of (szR_ok (by omega))); done)
    | (exact markU_B (c := (repairR c f t).1) (k := 1) (repairR_B (cluB_of (szR_ok (by omega)))); done)
    | ((exfalso; have q := endU_b (c := c) (k := 1) (cluB_of (szR_ok (by omega))); have q2 := endU_b (c := (repairR c f t).1) (k := 1) (repairR_B (cluB_of (szR_ok (by omega)))); simp only [endU] at q q2; omega); done)
    | (exact markP_len _ _; done)
    | (exact markCs_len _ _; done)
    | (exact markSs_len _ _; done)
    | (exact markI_len _ _; done)
    | fail)
end Go.Abs
namespace Go.Proofs.YtijifinpifomcaaGreat
open Go.ChangeShapes Go.WideShapes Go.ChangeAt Go.RowKit Go.Abs
set_option maxRecDepth 100000 in
theorem f_lifted (os : Os) (started : os.Started) (H : Type) (enc : TypeId × Value → H) :
    ReturnsInHanded {} Tryz.checked os 3 .any (Rows.fnExactRepairReplicaSpec.pre6 enc Tryz.prog Tryz.f3 Rows.fnExactRepairReplicaRow.domain false) (Rows.fnExactRepairReplicaSpec.post enc Tryz.prog Tryz.f3 false true false false) := by
  refine returnsInHanded_of_change (C := Tryz.checked) Tryz.own started (by kernel_rfl) Tryz.func3
    (ChangeSpec.witness6 (enc := enc) (C := Tryz.checked) false ⟨#[], #[.agg #[.int .i64 0, .slice none 0 0, .slice none 0 0, .slice none 0 0, .int .i64 0, .int .i64 0, .int .i64 0, .int .i64 0, .int .i64 0, .slice none 0 0], .int .i64 0, .int .i64 0], []⟩ 8 (by kernel_rfl) (by kernel_rfl) (by kernel_rfl) (by kernel_rfl)) ?_
  intro W base args ds gs before hval0 hW hcnd _
  have hval : ∀ (j : Nat) t v, Tryz.f3.params[j]? = some t → args[j]? = some v → Value.okWide Tryz.prog W .any base t v := hval0
  have hW' := hW
  obtain ⟨p, q, hA0, hV, rfl, hfz, hnd⟩ := hW
  have hA : DataW.TrodAll enc Tryz.prog W 0 (fun _ => true) true Tryz.f3.params.toList args.toList ds p := hA0
  rw [Tryz.params3] at hA hval
  obtain ⟨v0, v1, v2, d0, d1, d2, p0, p1, p2, rfl, rfl, hp, h0, h1, h2⟩ := trodAll_three hA
  subst hp
  obtain ⟨rfl, rfl⟩ := trodVars_none hV
  obtain ⟨t0, f0, a0⟩ := Abs.E.arg_struct Tryz.sh31 (Abs.E.agg_in Tryz.str31 (hval 0 31 _ rfl rfl)) h0
  obtain ⟨x0, rfl, g0⟩ := Abs.fit_Clu f0
  obtain ⟨t1, f1, a1⟩ := Abs.E.arg_cell Tryz.sh3 (Abs.E.cell_in Tryz.cel3 (hval 1 3 _ rfl rfl)) h1
  obtain ⟨x1, rfl⟩ := Abs.fit_i f1
  obtain ⟨t2, f2, a2⟩ := Abs.E.arg_cell Tryz.sh3 (Abs.E.cell_in Tryz.cel3 (hval 2 3 _ rfl rfl)) h2
  obtain ⟨x2, rfl⟩ := Abs.fit_i f2
  have hlt : ∀ x ∈ p0 ++ p1 ++ p2, x.block < W.heap.size := fun x hx => hW'.lt x (by simpa using hx)
  refine (Abs.E.fn_true (Abs.law_RepairReplica x0 x1 x2 g0) rfl (fun n a v h1 h2 => ?_)).mono fun e W' ⟨he, bel⟩ => ?_
  · match n with
    | 0 => obtain rfl := Option.some.inj h1; obtain rfl := Option.some.inj h2; exact a0
    | 1 => obtain rfl := Option.some.inj h1; obtain rfl := Option.some.inj h2; exact a1
    | 2 => obtain rfl := Option.some.inj h1; obtain rfl := Option.some.inj h2; exact a2
    | n + 3 => simp at h1
  subst he
  have hass : p0 ++ p1 ++ p2 = (p0 ++ (p1 ++ p2)) := by simp only [List.append_assoc]
  rw [hass] at hW'
  refine ⟨_, rfl, [d0, d1, d2], [], (p0 ++ (p1 ++ p2)) ++ [], [], (p0 ++ (p1 ++ p2)), [], hW', ?_, trodAll_mk3 (Below.trod Tryz.laidOut (by kernel_rfl) (of_decide_eq_true (by kernel_rfl)) h0 bel (fun x hx => hlt x (by simp [hx]))) (Below.trod Tryz.laidOut (by kernel_rfl) (of_decide_eq_true (by kernel_rfl)) h1 bel (fun x hx => hlt x (by simp [hx]))) (Below.trod Tryz.laidOut (by kernel_rfl) (of_decide_eq_true (by kernel_rfl)) h2 bel (fun x hx => hlt x (by simp [hx]))), rfl, bel.frame _, fun h => by cases h⟩
  exact trodAll_mk1 (shut_bool Tryz.undB true)
theorem RepairReplica_holds : Rows.FnExactRepairReplicaSaid :=
  OpenClaim.holds_of_wide 3 Tryz.f3 rfl rfl rfl rfl rfl rfl rfl ⟨rfl, rfl, rfl, rfl, rfl⟩ rfl rfl rfl rfl rfl (by kernel_rfl) Tryz.func3 joined_RepairReplica
    (of_decide_eq_true (by kernel_rfl)) (by unfold Func.isWrapper; first | (rw [if_pos (by decide +kernel)]; kernel_rfl) | (rw [if_neg (by decide +kernel)]; exact ⟨rfl, rfl⟩))
    (fun os started H enc _ => f_lifted os started H enc)
end Go.Proofs.YtijifinpifomcaaGreat

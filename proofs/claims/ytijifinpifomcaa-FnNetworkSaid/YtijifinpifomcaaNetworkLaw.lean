/- The program's Network answers as the reference's does, for every input. No condition. -/
import Derived.Test.YtijifinpifomcaaEntry
import Derived.Test.YtijifinpifomcaaNetworkRow
import Derived.Test.YtijifinpifomcaaQ10
import Derived.Test.YtijifinpifomcaaQ112
import Derived.Test.YtijifinpifomcaaQ112
import Derived.Test.YtijifinpifomcaaQ10
import Derived.Test.YtijifinpifomcaaQ112
import Derived.Test.YtijifinpifomcaaQ112
import Derived.Test.YtijifinpifomcaaQ3
import Derived.Test.YtijifinpifomcaaQ10
import Derived.Test.YtijifinpifomcaaQ10
import Derived.Test.YtijifinpifomcaaQ8
set_option linter.unusedVariables false
set_option linter.unusedSimpArgs false
set_option linter.unnecessarySimpa false
set_option linter.constructorNameAsVariable false
set_option maxHeartbeats 4000000
set_option maxRecDepth 100000
namespace Go.Abs
open Go
attribute [local go_sem ↓] E.argsA_h E.wq_ret E.wq_req E.wq_bad E.wq_call E.wq_get E.wq_getO E.wq_getOs E.wq_getPs E.wq_fresh E.wq_anyNil E.wq_getR0 E.wq_getR E.wq_ixM E.wq_n E.wq_g E.wq_gn E.ev_skip E.ev_region E.ev_draw E.ev_seq E.ev_cond E.ev_block E.ev_exit E.ev_ret E.sq_n E.sq_e E.sq_r E.bl_n E.bl_e E.bl_r E.lp_n E.lp_e E.lp_r E.fk_n E.fk_r E.q_move E.q_assign E.q_pick E.q_bin E.q_binw E.q_un E.q_alloc E.q_box E.q_build E.q_buildS E.q_makeS E.q_load E.q_store E.q_nilCheck E.q_slice E.q_fieldAddr E.q_field E.q_indexAddr E.q_extract E.q_makeFunc E.q_call E.q_callT E.q_len E.q_append E.q_min E.q_max E.q_convert E.q_cap E.q_clear appendIM appendZM E.b_add E.b_sub E.b_mul E.b_eql E.b_neq E.b_lss E.b_leq E.b_gtr E.b_geq E.GO_tmp E.GO_int E.GO_bool E.GO_str E.GO_nil E.GO_func E.GOs_nil E.GOs_cons E.GPs_nil E.GPs_cons E.RW_nil E.RW_cons E.dstAt_0 E.dstAt_s E.keepL_nil E.keepL_s E.keepL_k E.rmN_nil E.rmN_cons E.memN_nil E.memN_cons E.memK_nil E.memK_cons E.ovl_nil E.ovl_kk E.ovl_sk E.ovl_ks E.ovl_ss ofL_s ofL_sk ofL_ks ofL_k ofL_nil E.CO_tmp E.CO_bool
attribute [local go_sem] E.RM_nil E.RM_cons E.kd_k E.sbr_eq E.s3_nil E.s3_s E.s3_k E.vr_c E.vr_a E.vr_p E.vr_q E.vr_t E.vr_f E.vr_u E.cr_r E.cr_v E.cr_b E.cr_n E.cr_u E.crs_nil E.crs_cons E.renK_nil E.renK_cons keysVs V.keys C.keys keysCs E.RG_nil E.RG_cons E.GV_v E.GB_true E.GB_false E.GX_b E.GG_t E.GG_f E.GG_u E.GU_some E.IX_0 E.IX_s E.CX_s E.FR_none E.EN_e E.GVB_b E.b_boolM E.b_nilM E.b_strM E.b_aggM
attribute [local go_sem] List.cons_append List.nil_append List.append_nil List.length_cons List.length_nil List.length_map List.length_append callM E.argsH_nil E.argsH_cons E.argH_c E.argH_a E.argH_f E.argH_p ptrH_s E.cellsH_nil E.cellsH_cons E.cellH_v E.cellH_b E.cellH_n E.cellH_nt E.cellH_u E.cellH_rt E.cellH_rf capsA capA callable backs backT resVs resV resC tupV lenV intV boolV getE getO entryL entryKs A.ts entryV entryC entryCs entryCap List.map_cons List.map_nil E.cut_n E.cut_r E.cutM plainL A.lastOK T.lastOK Bool.false_or A.capOK szEs szE szT SZ whole toB toC List.drop_zero List.take_zero List.take_succ_cons List.drop_succ_cons resultsM resultM outM outM1 convs conv finAs finA finT finTs Int.toNat_natCast A.plain T.plain List.isEmpty_nil List.isEmpty_cons Bool.or_true Bool.true_or Bool.and_self List.getElem?_cons_zero List.getElem?_cons_succ Option.bind_some Option.bind_none Option.bind Nat.zero_add Nat.add_zero OWN BOR ONE SCAL DE ETA E.take_rest Int.toNat_zero E.take_map E.drop_map E.take_len1 List.take_length E.app_map Int.natCast_zero Int.sub_zero Int.toNat_sub partCells V.cells convsL appendM srcM E.scalEs_nil E.scalEs_cons E.oneEs_nil E.oneEs_cons List.all_cons List.all_nil T.one Bool.and_true gone ownEs ownE ownT borEs borE borT setRow splice List.set_cons_zero List.set_cons_succ optI getOpt sliceM ptrTo app_ofL T.isV Value.oneCell' fillC zeroC spliceC allV eqVs eqV minV maxV setAt setCell holed List.dropLast List.getLast?_singleton Option.getD_some Option.isSome_some Option.isSome_none Bool.and_false Bool.true_and Bool.false_and Option.map_some Option.map_none false_or true_or or_true rowAt cellAt E.constV_nil E.constV_int E.constV_bool E.constV_str E.setCell_set E.setCell_len setRow setAt List.dropLast_cons_cons List.dropLast_singleton List.getLast?_cons_cons
attribute [local go_sem_proc ↓] reduceIte
attribute [local go_sem_proc] Nat.reduceEqDiff reduceCtorEq Nat.reduceAdd Nat.reduceMul
attribute [local irreducible] E.argsH E.argH E.cellsH E.cellH E.GV E.GB E.GX E.GG E.GU E.IX E.CX E.RW E.FR E.EN E.CALL E.GO E.GOs E.GPs E.GVB E.KD E.RM E.RG E.CO E.WQ E.EV E.SQ E.BL E.LP E.FK E.S3 E.RK E.NEXT E.NQ E.INDEP
attribute [local go_sem] mdG_eq mdM toNat_pred setI List.length_set mdL_eq eq_self decide_true
attribute [local irreducible] drawMove reachN moveSide masterSide sameSide areSides
theorem law_Network  [Amb] (a : Option Addr) (cap : Nat) (b : List Int) (hV : LentV.view (Value.slice a b.length cap) = some (1, b.map eByt)) : Fn Go.Proofs.Try.prog 3 [.c (.v (.slice a b.length cap))] [.c .d] [.c (.v (.bool (true)))] := by
  refine E.Fn.ev (n := 97) mdL false mix Go.Proofs.Try.func3 rfl (by simp [Go.Proofs.Try.f3]) Go.Proofs.Try.ntmps3 (by simp) (by kernel_rfl) (rs := [.tmp 2]) (tys := [4]) rfl rfl (by simp [finOK, A.ts, OWN, ownE, ownT, ownEs]) (by simp [resOK, A.ts, OWN, ownE, ownT, DE, ownEs]) ?_
  simp only [go_sem, hV]
  repeat' (first
    | simp only [IJS]
    | (refine E.CALL.use (big_c a cap b) ?_ <;> (try simp (maxSteps := 900000) only [go_sem, hV]))
    | (refine E.CALL.use (drawMove_c a cap b hV (by omega)) ?_ <;> (try simp (maxSteps := 900000) only [go_sem, hV]))
    | (refine E.CALL.use (Fn.lift (moveSide_i _ _ _ ?_)) ?_ <;> (try simp (maxSteps := 900000) only [go_sem, hV]))
    | (refine E.CALL.use (Fn.lift (moveSide_s _ _ _ ?_)) ?_ <;> (try simp (maxSteps := 900000) only [go_sem, hV]))
    | (refine E.CALL.use (Fn.lift (sameInts_c _ _ ?_ ?_)) ?_ <;> (try simp (maxSteps := 900000) only [go_sem, hV]))
    | (refine E.CALL.use (Fn.lift (areSides_i _ ?_)) ?_ <;> (try simp (maxSteps := 900000) only [go_sem, hV]))
    | (refine E.CALL.use (Fn.lift (areSides_s _ ?_)) ?_ <;> (try simp (maxSteps := 900000) only [go_sem, hV]))
    | (refine E.CALL.use (Fn.lift (reach_i _ _ ?_)) ?_ <;> (try simp (maxSteps := 900000) only [go_sem, hV]))
    | (refine E.CALL.use (Fn.lift (reach_s _ _ ?_)) ?_ <;> (try simp (maxSteps := 900000) only [go_sem, hV]))
    | (refine E.CALL.use (Fn.lift (mside_i _ ?_)) ?_ <;> (try simp (maxSteps := 900000) only [go_sem, hV]))
    | (refine E.CALL.use (Fn.lift (mside_s _ ?_)) ?_ <;> (try simp (maxSteps := 900000) only [go_sem, hV]))
    | (refine E.CALL.use (Fn.lift (has_c _ _ ?_)) ?_ <;> (try simp (maxSteps := 900000) only [go_sem, hV]))
    | (refine E.CALL.use (Fn.lift (sameSide_i _ _ _ ?_)) ?_ <;> (try simp (maxSteps := 900000) only [go_sem, hV]))
    | (refine E.GB.use (fun h => ?_) (fun h => ?_) <;> (try (exfalso; simp only [HFS] at h; omega)) <;> (simp only [go_sem, hV, h]) <;> (try simp only [HFS] at h))
    | exact E.RK.mk (by kernel_rfl)
    | (refine E.loopR (ι := Nat) 12 rfl (fun i => [(.s 11, .v (.c (.v (vi i))))]) [4, 5, 6, 10, 85, 86, 87, 88, 89, 90, 91, 92, 93, 94, 95, 96] [] [] (fun i => 5 - i) (fun i => i ≤ 5 ∧ i = i) mix (by kernel_rfl) 0 ?_ ?_ (fun i ⟨hi, hi2⟩ => ?_); all_goals (try simp (maxSteps := 900000) only [go_sem, hV]); all_goals (try dsimp only at hi hi2))
    | (refine E.NEXT.use [] (i + 1) ?_ ?_ ?_; rotate_left 2; focus (simp (maxSteps := 900000) only [go_sem, hV]; (repeat' (first | with_reducible rfl | exact E.RK.mk (by kernel_rfl) | apply And.intro | (push_cast; with_reducible rfl) | (refine E.int_c ?_; omega) | (simp only [go_sem]; done) | (rw [List.map_append]; rfl) | (simp; done) | (simp only [*]; done) | fail)); done))
    | apply And.intro
    | omega
    | ((have q := drawMove_len b; omega); done)
    | ((have q := drawMove_len b; have q2 := moveSide_len2 (drawMove b).1 (drawMove b).2.1 (drawMove b).2.2; omega); done)
    | ((have q := drawMove_len b; have q2 := mside_len (drawMove b).1; omega); done)
    | ((have q := mside_len (moveSide (drawMove b).1 (drawMove b).2.1 (drawMove b).2.2).1; have q1 := drawMove_len b; have q2 := moveSide_len2 (drawMove b).1 (drawMove b).2.1 (drawMove b).2.2; omega); done)
    | ((have q := reachN_len (drawMove b).1 (drawMove b).2.1 5; omega); done)
    | ((have q := reachN_len (moveSide (drawMove b).1 (drawMove b).2.1 (drawMove b).2.2).1 (drawMove b).2.1 5; omega); done)
    | ((exfalso; rw [net_k (by omega)] at h; simp at h); done)
    | ((rw [net_m (by assumption)]; simp); done)
    | ((exfalso; simp_all [net_id]; done); done)
    | ((exfalso; have q := net_id (by assumption : (moveSide (drawMove b).1 (drawMove b).2.1 (drawMove b).2.2).2 = true); simp_all; done); done)
    | fail)
end Go.Abs
namespace Go.Proofs.Ytijifinpifomcaa
open Go.ChangeShapes Go.WideShapes Go.ChangeAt Go.RowKit Go.Abs
set_option maxRecDepth 100000 in
theorem f_lifted (os : Os) (started : os.Started) (H : Type) (enc : TypeId × Value → H) :
    ReturnsInHanded {} Try.checked os 3 .any (Rows.fnNetworkSpec.pre6 enc Try.prog Try.f3 Rows.fnNetworkRow.domain false) (Rows.fnNetworkSpec.post enc Try.prog Try.f3 false true false false) := by
  refine returnsInHanded_of_change (C := Try.checked) Try.own started (by kernel_rfl) Try.func3
    (ChangeSpec.witness6 (enc := enc) (C := Try.checked) false ⟨#[], #[.slice none 0 0], []⟩ 8 (by kernel_rfl) (by kernel_rfl) (by kernel_rfl) (by kernel_rfl)) ?_
  intro W base args ds gs before hval0 hW hcnd _
  have hval : ∀ (j : Nat) t v, Try.f3.params[j]? = some t → args[j]? = some v → Value.okWide Try.prog W .any base t v := hval0
  have hW' := hW
  obtain ⟨p, q, hA0, hV, rfl, hfz, hnd⟩ := hW
  have hA : DataW.TrodAll enc Try.prog W 0 (fun _ => true) true Try.f3.params.toList args.toList ds p := hA0
  rw [Try.params3] at hA hval
  obtain ⟨v0, d0, rfl, rfl, h0⟩ := trodAll_one hA
  obtain ⟨rfl, rfl⟩ := trodVars_none hV
  obtain ⟨t0, f0, a0⟩ := Abs.E.arg_cell Try.sh22 (Abs.E.cell_in Try.cel22 (hval 0 22 _ rfl rfl)) h0
  obtain ⟨x0, rfl, g0⟩ := Abs.fit_lB f0
  obtain ⟨b0, c0, rfl, e0⟩ := Abs.bytes_in a0
  letI : Amb := Abs.byteAmb (.slice b0 x0.length c0) x0
  have hlt : ∀ x ∈ p, x.block < W.heap.size := fun x hx => hW'.lt x (by simpa using hx)
  refine (Abs.E.fn_true (Abs.law_Network b0 c0 x0 Abs.byteAmb_view) rfl (fun n a v h1 h2 => ?_) (Abs.byteAmb_ok e0)).mono fun e W' ⟨he, bel⟩ => ?_
  · match n with
    | 0 => obtain rfl := Option.some.inj h1; obtain rfl := Option.some.inj h2; exact BorT.v _
    | n + 1 => simp at h1
  subst he
  refine ⟨_, rfl, [d0], [], p ++ [], [], p, [], hW', ?_, trodAll_mk1 (Below.trod Try.laidOut (by kernel_rfl) (of_decide_eq_true (by kernel_rfl)) h0 bel hlt), rfl, bel.frame _, fun h => by cases h⟩
  exact trodAll_mk1 (shut_bool Try.undB true)
theorem Network_holds : Rows.FnNetworkSaid :=
  OpenClaim.holds_of_wide 3 Try.f3 rfl rfl rfl rfl rfl rfl rfl ⟨rfl, rfl, rfl, rfl, rfl⟩ rfl rfl rfl rfl rfl (by kernel_rfl) Try.func3 joined_Network
    (of_decide_eq_true (by kernel_rfl)) (by unfold Func.isWrapper; first | (rw [if_pos (by decide +kernel)]; kernel_rfl) | (rw [if_neg (by decide +kernel)]; exact ⟨rfl, rfl⟩))
    (fun os started H enc _ => f_lifted os started H enc)
end Go.Proofs.Ytijifinpifomcaa

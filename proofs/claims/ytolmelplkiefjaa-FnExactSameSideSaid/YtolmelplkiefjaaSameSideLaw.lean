/- The program's SameSide answers as the reference's does, for every input. No condition. -/
import Derived.Test.YtolmelplkiefjaaMore
import Derived.Test.YtolmelplkiefjaaRows
set_option linter.unusedVariables false
set_option linter.unusedSimpArgs false
set_option linter.unnecessarySimpa false
set_option linter.constructorNameAsVariable false
set_option maxHeartbeats 4000000
namespace Go.Abs
open Go
attribute [local go_sem ↓] E.wq_ret E.wq_req E.wq_bad E.wq_call E.wq_get E.wq_getO E.wq_getOs E.wq_getPs E.wq_fresh E.wq_anyNil E.wq_getR0 E.wq_getR E.wq_ixM E.wq_n E.wq_g E.wq_gn E.ev_skip E.ev_region E.ev_draw E.ev_seq E.ev_cond E.ev_block E.ev_exit E.ev_ret E.sq_n E.sq_e E.sq_r E.bl_n E.bl_e E.bl_r E.lp_n E.lp_e E.lp_r E.fk_n E.fk_r E.q_move E.q_assign E.q_pick E.q_bin E.q_binw E.q_un E.q_alloc E.q_box E.q_build E.q_buildS E.q_makeS E.q_load E.q_store E.q_nilCheck E.q_slice E.q_fieldAddr E.q_field E.q_indexAddr E.q_extract E.q_makeFunc E.q_call E.q_callT E.q_len E.q_append E.q_min E.q_max E.b_add E.b_sub E.b_mul E.b_eql E.b_neq E.b_lss E.b_leq E.b_gtr E.b_geq E.GO_tmp E.GO_int E.GO_bool E.GO_str E.GO_nil E.GO_func E.GOs_nil E.GOs_cons E.GPs_nil E.GPs_cons E.RW_nil E.RW_cons E.dstAt_0 E.dstAt_s E.keepL_nil E.keepL_s E.keepL_k E.memN_nil E.memN_cons E.memK_nil E.memK_cons ofL_s ofL_sk ofL_ks ofL_k ofL_nil E.CO_tmp E.CO_bool
attribute [local go_sem] E.RM_nil E.RM_cons E.kd_k E.sbr_eq E.s3_nil E.s3_s E.s3_k E.vr_c E.vr_a E.vr_p E.vr_q E.vr_t E.vr_f E.vr_u E.cr_r E.cr_v E.cr_b E.cr_n E.cr_u E.crs_nil E.crs_cons E.renK_nil E.renK_cons keysVs V.keys C.keys keysCs E.RG_nil E.RG_cons E.GV_v E.GB_true E.GB_false E.GX_b E.GG_t E.GG_f E.GG_u E.GU_some E.IX_0 E.IX_s E.CX_s E.FR_none E.EN_e E.GVB_b E.b_boolM E.b_nilM E.b_strM E.b_aggM List.cons_append List.nil_append List.append_nil List.length_cons List.length_nil List.length_map el24 sz3 by3 ag3 ze3 ki3 ki4 ki24 un4 un24 callM argsA argA cellA cellsA capsA capA callable backs backT resVs resV resC tupV lenV intV boolV put ovl getE getO noMd entryL entryKs A.ts entryV entryC entryCs entryCap List.map_cons List.map_nil whole toB toC List.drop_zero List.take_zero List.take_succ_cons List.drop_succ_cons resultsM resultM outM outM1 convs conv finAs finA finT Int.toNat_natCast A.plain T.plain List.isEmpty_nil List.isEmpty_cons Bool.or_true Bool.true_or Bool.and_self List.getElem?_cons_zero List.getElem?_cons_succ Option.bind_some Option.bind_none Option.bind Nat.zero_add Nat.add_zero own_eInt bor_eInt scal_eInt one_eInt E.take_all E.app1 eInt_eq partCells V.cells convsL appendM srcM E.scalEs_nil E.scalEs_cons E.oneEs_nil E.oneEs_cons List.all_cons List.all_nil T.one Bool.and_true gone ownEs ownE ownT borEs borE borT setRow splice List.set_cons_zero List.set_cons_succ optI getOpt sliceM ptrTo app_ofL T.isV Value.oneCell'
attribute [local irreducible] E.GV E.GB E.GX E.GG E.GU E.IX E.CX E.RW E.FR E.EN E.CALL E.GO E.GOs E.GPs E.GVB E.KD E.RM E.RG E.CO E.WQ E.EV E.SQ E.BL E.LP E.FK E.S3 E.RK E.NEXT E.NQ E.INDEP


attribute [local go_sem] mdM_eq markI_len held_mark beq_self_eq_true Bool.not_true bne_self_eq_false E.cp_full

theorem law5 (l : List Int) (a b : Int) : Fn Go.Proofs.Try.prog 5 [.c (.s false 1 ((l).map eInt)), .c (.v (vi (a))), .c (.v (vi (b)))] [.c .d, .c .d, .c .d] [.c (.v (.bool (true)))] := by
  refine E.Fn.ev (n := 32) mdM false mix Go.Proofs.Try.func5 rfl (by simp [Go.Proofs.Try.f5]) Go.Proofs.Try.ntmps5 (by simp) (by kernel_rfl) (rs := [.tmp 6]) (tys := [4]) rfl rfl rfl rfl ?_
  simp only [go_sem, reduceIte, Nat.reduceEqDiff, reduceCtorEq, Nat.reduceAdd, Nat.reduceMul]
  repeat' (first
    | with_reducible rfl
    | exact trivial
    | simp only [List.cons.injEq, A.c.injEq, A.a.injEq, T.v.injEq, T.s.injEq, Value.bool.injEq, Value.int.injEq, and_true, true_and]
    | (refine E.CALL.use (toIntS_c _ ?_) ?_ <;> (try simp only [go_sem, reduceIte, Nat.reduceEqDiff, reduceCtorEq, Nat.reduceAdd, Nat.reduceMul]))
    | (refine E.CALL.use (sameSide_spec _ _ _ ?_) ?_ <;> (try simp only [go_sem, reduceIte, Nat.reduceEqDiff, reduceCtorEq, Nat.reduceAdd, Nat.reduceMul]))
    | (refine E.CALL.use (sameSide_impl _ _ _ ?_) ?_ <;> (try simp only [go_sem, reduceIte, Nat.reduceEqDiff, reduceCtorEq, Nat.reduceAdd, Nat.reduceMul]))
    | (refine E.CALL.use (eqIntS_c _ _ ?_ ?_) ?_ <;> (try simp only [go_sem, reduceIte, Nat.reduceEqDiff, reduceCtorEq, Nat.reduceAdd, Nat.reduceMul]))
    | (refine E.CALL.use (mark_c _ _ ?_ ?_ ?_) ?_ <;> (try simp only [go_sem, reduceIte, Nat.reduceEqDiff, reduceCtorEq, Nat.reduceAdd, Nat.reduceMul]))
    | (refine E.CALL.use (held_c _ _ ?_ ?_ ?_) ?_ <;> (try simp only [go_sem, reduceIte, Nat.reduceEqDiff, reduceCtorEq, Nat.reduceAdd, Nat.reduceMul]))
    | (refine E.GB.use (fun h => ?_) (fun h => ?_) <;> (try (exfalso; simp only [decide_eq_true_eq, decide_eq_false_iff_not, Bool.not_eq_true', Bool.not_eq_false', Bool.not_eq_true, Bool.not_eq_false, beq_iff_eq, beq_eq_false_iff_ne, bne_iff_ne, bne_eq_false_iff_eq, Int.not_lt, Int.not_le, ne_eq] at h; omega)) <;> (simp only [go_sem, reduceIte, Nat.reduceEqDiff, reduceCtorEq, Nat.reduceAdd, Nat.reduceMul, h]) <;> (try simp only [decide_eq_true_eq, decide_eq_false_iff_not, Bool.not_eq_true', Bool.not_eq_false', Bool.not_eq_true, Bool.not_eq_false, beq_iff_eq, beq_eq_false_iff_ne, bne_iff_ne, bne_eq_false_iff_eq, Int.not_lt, Int.not_le, ne_eq] at h))
    | exact E.INDEP.mk (by kernel_rfl)
    | (refine E.NQ.use (fun b hb => ?_); simp only [go_sem, reduceIte, Nat.reduceEqDiff, reduceCtorEq, Nat.reduceAdd, Nat.reduceMul])
    | exact E.RK.mk (by kernel_rfl)
    | (refine E.IX_map ?_ (fun hx => ?_); rotate_left; simp only [go_sem, reduceIte, Nat.reduceEqDiff, reduceCtorEq, Nat.reduceAdd, Nat.reduceMul])
    | apply And.intro
    | omega
    | (dsimp only; omega)
    | (push_cast; with_reducible rfl)
    | refine congrArg (List.map _) ?_
    | (simp only [markI_len, moveSide_len]; omega; done)
    | (simp; done)
    | fail)

end Go.Abs

namespace Go.Proofs.Ytolmelplkiefjaa
open Go.ChangeShapes Go.WideShapes Go.ChangeAt Go.RowKit Go.Abs
theorem Try.own : ownKnob Try.prog.godebug = none := by kernel_rfl
theorem Try.laidOut : laidOutB Try.prog = true := by kernel_rfl
theorem Try.und24 : Try.prog.underlying 24 = some (.slice 3) := by kernel_rfl
theorem Try.und3 : Try.prog.underlying 3 = some (.int .i64) := by kernel_rfl
theorem Try.und4 : Try.prog.underlying 4 = some .bool := by kernel_rfl
theorem Try.sh24 : Abs.E.shapes Try.prog 12 24 = some [.sl [.i .i64]] := by rfl
theorem Try.sh3 : Abs.E.shapes Try.prog 12 3 = some [.i .i64] := by rfl
theorem fit_int {t : T} (h : Abs.E.Fit (.i .i64) t) : ∃ n : Int, t = .v (vi n) := by cases h with | i _ n _ => exact ⟨n, rfl⟩
theorem fit_ints {t : T} (h : Abs.E.Fit (.sl [.i .i64]) t) : ∃ l : List Int, t = .s false 1 (l.map eInt) := by
  cases h with
  | sl _ es h =>
    obtain ⟨l, rfl⟩ := Abs.E.FitEs.map (enc := eInt) (fun e he => by
      cases he with | cons _ _ t ts h1 h2 =>
      cases h2
      obtain ⟨n, rfl⟩ := fit_int h1
      exact ⟨n, rfl⟩) h
    exact ⟨l, rfl⟩
set_option maxRecDepth 100000 in
theorem f_lifted (os : Os) (started : os.Started) (H : Type) (enc : TypeId × Value → H) :
    ReturnsInHanded {} Try.checked os 5 .any (Rows.fnExactSameSideSpec.pre6 enc Try.prog Try.f5 Rows.fnExactSameSideRow.domain false) (Rows.fnExactSameSideSpec.post enc Try.prog Try.f5 false true false false) := by
  refine returnsInHanded_of_change (C := Try.checked) Try.own started (by kernel_rfl) Try.func5
    (ChangeSpec.witness6 (enc := enc) (C := Try.checked) false ⟨#[], #[.slice none 0 0, .int .i64 0, .int .i64 0], []⟩ 8 (by kernel_rfl) (by kernel_rfl) (by kernel_rfl) (by kernel_rfl)) ?_
  intro W base args ds gs before hval0 hW hcnd _
  have hval : ∀ (j : Nat) t v, Try.f5.params[j]? = some t → args[j]? = some v → Value.okWide Try.prog W .any base t v := hval0
  have hW' := hW
  obtain ⟨p, q, hA0, hV, rfl, hfz, hnd⟩ := hW
  have hA : DataW.TrodAll enc Try.prog W 0 (fun _ => true) true Try.f5.params.toList args.toList ds p := hA0
  rw [Try.params5] at hA hval
  obtain ⟨v0, v1, v2, d0, d1, d2, p0, p1, p2, rfl, rfl, hp, h0, h1, h2⟩ := trodAll_three hA
  subst hp
  obtain ⟨rfl, rfl⟩ := trodVars_none hV
  obtain ⟨t0, f0, a0⟩ := Abs.E.arg_cell Try.sh24 (fun c hc => by
    subst hc
    have := hval 0 24 _ rfl rfl
    simp [Value.okWide, Cell.okWide, Cell.ok] at this) h0
  obtain ⟨x0, rfl⟩ := fit_ints f0
  obtain ⟨t1, f1, a1⟩ := Abs.E.arg_cell Try.sh3 (fun c hc => by
    subst hc
    have := hval 1 3 _ rfl rfl
    simp [Value.okWide, Cell.okWide, Cell.ok] at this) h1
  obtain ⟨x1, rfl⟩ := fit_int f1
  obtain ⟨t2, f2, a2⟩ := Abs.E.arg_cell Try.sh3 (fun c hc => by
    subst hc
    have := hval 2 3 _ rfl rfl
    simp [Value.okWide, Cell.okWide, Cell.ok] at this) h2
  obtain ⟨x2, rfl⟩ := fit_int f2
  have hlt : ∀ x ∈ p0 ++ p1 ++ p2, x.block < W.heap.size := fun x hx => hW'.lt x (by simpa using hx)
  refine (Abs.E.fn_true (law5 x0 x1 x2) rfl (fun n a v h1 h2 => ?_)).mono fun e W' ⟨he, bel⟩ => ?_
  · match n with
    | 0 => obtain rfl := Option.some.inj h1; obtain rfl := Option.some.inj h2; exact a0
    | 1 => obtain rfl := Option.some.inj h1; obtain rfl := Option.some.inj h2; exact a1
    | 2 => obtain rfl := Option.some.inj h1; obtain rfl := Option.some.inj h2; exact a2
    | n + 3 => simp at h1
  subst he
  have hass : p0 ++ p1 ++ p2 = p0 ++ (p1 ++ p2) := List.append_assoc ..
  rw [hass] at hW'
  refine ⟨_, rfl, [d0, d1, d2], [], (p0 ++ (p1 ++ p2)) ++ [], [], (p0 ++ (p1 ++ p2)), [], hW', ?_, trodAll_mk3 (Below.trod Try.laidOut (by kernel_rfl) (of_decide_eq_true (by kernel_rfl)) h0 bel (fun x hx => hlt x (by simp [hx]))) (Below.trod Try.laidOut (by kernel_rfl) (of_decide_eq_true (by kernel_rfl)) h1 bel (fun x hx => hlt x (by simp [hx]))) (Below.trod Try.laidOut (by kernel_rfl) (of_decide_eq_true (by kernel_rfl)) h2 bel (fun x hx => hlt x (by simp [hx]))), rfl, bel.frame _, fun h => by cases h⟩
  exact trodAll_mk1 (shut_bool Try.und4 true)
theorem SameSide_holds : Rows.FnExactSameSideSaid :=
  OpenClaim.holds_of_wide 5 Try.f5 rfl rfl rfl rfl rfl rfl rfl ⟨rfl, rfl, rfl, rfl, rfl⟩ rfl rfl rfl rfl rfl (by kernel_rfl) Try.func5 (by kernel_rfl)
    (of_decide_eq_true (by kernel_rfl)) (by unfold Func.isWrapper; first | (rw [if_pos (by decide +kernel)]; kernel_rfl) | (rw [if_neg (by decide +kernel)]; exact ⟨rfl, rfl⟩))
    (fun os started H enc _ => f_lifted os started H enc)
end Go.Proofs.Ytolmelplkiefjaa

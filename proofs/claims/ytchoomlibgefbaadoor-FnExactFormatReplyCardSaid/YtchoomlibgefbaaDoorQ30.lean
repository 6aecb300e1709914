/- Contracts of functions of the program, over the abstract machine, and facts for them. No condition. -/
import Derived.Test.YtchoomlibgefbaaDoorFacts
import Derived.Test.YtchoomlibgefbaaDoorPure17
import Derived.Test.YtchoomlibgefbaaDoorQ3
import Derived.Test.YtchoomlibgefbaaDoorQ8
set_option linter.unusedVariables false
set_option linter.unusedSimpArgs false
set_option linter.unnecessarySimpa false
set_option linter.constructorNameAsVariable false
set_option maxHeartbeats 4000000
set_option maxRecDepth 100000
namespace Go.Abs
open Go
attribute [local go_sem ↓] E.argsA_h E.wq_ret E.wq_req E.wq_bad E.wq_call E.wq_get E.wq_getO E.wq_getOs E.wq_getPs E.wq_fresh E.wq_anyNil E.wq_getR0 E.wq_getR E.wq_ixM E.wq_n E.wq_g E.wq_gn E.ev_skip E.ev_region E.ev_draw E.ev_seq E.ev_cond E.ev_block E.ev_exit E.ev_ret E.sq_n E.sq_e E.sq_r E.bl_n E.bl_e E.bl_r E.lp_n E.lp_e E.lp_r E.fk_n E.fk_r E.q_move E.q_assign E.q_pick E.q_bin E.q_binw E.q_un E.q_alloc E.q_box E.q_build E.q_buildS E.q_makeS E.q_load E.q_store E.q_nilCheck E.q_slice E.q_fieldAddr E.q_field E.q_indexAddr E.q_extract E.q_makeFunc E.q_call E.q_callT E.q_len E.q_append E.q_min E.q_max E.q_convert E.q_cap E.q_clear appendIM appendZM E.b_add E.b_sub E.b_mul E.b_eql E.b_neq E.b_lss E.b_leq E.b_gtr E.b_geq E.GO_tmp E.GO_int E.GO_bool E.GO_str E.GO_nil E.GO_func E.GOs_nil E.GOs_cons E.GPs_nil E.GPs_cons E.RW_nil E.RW_cons E.dstAt_0 E.dstAt_s E.keepL_nil E.keepL_s E.keepL_k E.rmN_nil E.rmN_cons E.memN_nil E.memN_cons E.memK_nil E.memK_cons E.ovl_nil E.ovl_kk E.ovl_sk E.ovl_ks E.ovl_ss ofL_s ofL_sk ofL_ks ofL_k ofL_nil E.CO_tmp E.CO_bool
attribute [local go_sem] E.RM_nil E.RM_cons E.kd_k E.sbr_eq E.s3_nil E.s3_s E.s3_k E.vr_c E.vr_a E.vr_p E.vr_q E.vr_t E.vr_f E.vr_u E.cr_r E.cr_v E.cr_b E.cr_n E.cr_u E.crs_nil E.crs_cons E.renK_nil E.renK_cons keysVs V.keys C.keys keysCs E.RG_nil E.RG_cons E.GV_v E.GB_true E.GB_false E.GX_b E.GG_t E.GG_f E.GG_u E.GU_some E.IX_0 E.IX_s E.CX_s E.FR_none E.EN_e E.GVB_b E.b_boolM E.b_nilM E.b_strM E.b_aggM
attribute [local go_sem] List.cons_append List.nil_append List.append_nil List.length_cons List.length_nil List.length_map List.length_append callM E.argsH_nil E.argsH_cons E.argH_c E.argH_a E.argH_f E.cellsH_nil E.cellsH_cons E.cellH_v E.cellH_b E.cellH_n E.cellH_nt E.cellH_u E.cellH_rt E.cellH_rf capsA capA callable backs backT resVs resV resC tupV lenV intV boolV getE getO entryL entryKs A.ts entryV entryC entryCs entryCap List.map_cons List.map_nil E.cut_n E.cut_r E.cutM plainL A.capOK szEs szE szT SZ whole toB toC List.drop_zero List.take_zero List.take_succ_cons List.drop_succ_cons resultsM resultM outM outM1 convs conv finAs finA finT finTs Int.toNat_natCast A.plain T.plain List.isEmpty_nil List.isEmpty_cons Bool.or_true Bool.true_or Bool.and_self List.getElem?_cons_zero List.getElem?_cons_succ Option.bind_some Option.bind_none Option.bind Nat.zero_add Nat.add_zero OWN BOR ONE SCAL DE ETA E.take_rest Int.toNat_zero E.take_map E.drop_map E.take_len1 List.take_length E.app_map Int.natCast_zero Int.sub_zero Int.toNat_sub partCells V.cells convsL appendM srcM E.scalEs_nil E.scalEs_cons E.oneEs_nil E.oneEs_cons List.all_cons List.all_nil T.one Bool.and_true gone ownEs ownE ownT borEs borE borT setRow splice List.set_cons_zero List.set_cons_succ optI getOpt sliceM ptrTo app_ofL T.isV Value.oneCell' fillC zeroC spliceC allV eqVs eqV minV maxV setAt setCell holed List.dropLast List.getLast?_singleton Option.getD_some Option.isSome_some Option.isSome_none Bool.and_false Bool.true_and Bool.false_and Option.map_some Option.map_none false_or true_or or_true rowAt cellAt E.constV_nil E.constV_int E.constV_bool E.constV_str E.setCell_set E.setCell_len setRow setAt List.dropLast_cons_cons List.dropLast_singleton List.getLast?_cons_cons
attribute [local go_sem_proc ↓] reduceIte
attribute [local go_sem_proc] Nat.reduceEqDiff reduceCtorEq Nat.reduceAdd Nat.reduceMul
attribute [local irreducible] E.argsH E.argH E.cellsH E.cellH E.GV E.GB E.GX E.GG E.GU E.IX E.CX E.RW E.FR E.EN E.CALL E.GO E.GOs E.GPs E.GVB E.KD E.RM E.RG E.CO E.WQ E.EV E.SQ E.BL E.LP E.FK E.S3 E.RK E.NEXT E.NQ E.INDEP
section
attribute [local go_sem] mdG_eq mdM toNat_pred setI List.length_set
def mdL (f i : Nat) : Bool := if i = 0 then (false) else false
theorem mdL_eq (f i : Nat) : mdL f i = if i = 0 then (false) else false := rfl

theorem zeros {α : Type} (f : α → List T) (n : Nat) (z : α) : List.replicate n (f z) = (List.replicate n z).map f := by simp
theorem E.b_rem {P : Program} {dr : Bool} {t : TypeId} {ik : IntKind} {m n : Int} {k : V → M} {st : St} {rs : List Loc} {K : List Loc → Ws → Prop} : E.WQ P dr (bin2 P .rem t (.c (.v (.int ik m))) (.c (.v (.int ik n))) k) st rs K () = (n ≠ 0 ∧ E.WQ P dr (k (.c (.v (.int ik (m.tmod n))))) st rs K ()) := by
  by_cases hn : n = 0
  · subst hn; simp [bin2, binM, intBin, E.wq_bad]
  · simp [bin2, binM, intBin, hn]

end
section
attribute [local go_sem] mdG_eq mdM toNat_pred setI List.length_set mdL_eq E.b_rem
theorem toOp_l (a : ROp) : Fn Go.Proofs.Tryd.prog 41 [.a (eROp a)] [.a [.d, .d, .d, .d, .d, .d]] [.a (eROp (a))] := by
  refine E.Fn.ev (n := 23) mdL false mix Go.Proofs.Tryd.func41 rfl (by simp [Go.Proofs.Tryd.f41]) Go.Proofs.Tryd.ntmps41 (by simp) (by kernel_rfl) (rs := [.cell 2 62]) (tys := [62]) rfl rfl (by simp [finOK, A.ts, OWN, ownE, ownT]) (by simp [resOK, A.ts, OWN, ownE, ownT, DE]) ?_
  simp only [go_sem]
  repeat' (first
    | simp only [List.cons.injEq, A.c.injEq, A.a.injEq, T.v.injEq, T.s.injEq, Value.bool.injEq, Value.int.injEq, and_true, true_and]
    | apply And.intro
    | omega
    | fail)

theorem toRes_l (a : Res) : Fn Go.Proofs.Tryd.prog 25 [.a (eRes a)] [.a [.d, .d]] [.a (eRes (a))] := by
  refine E.Fn.ev (n := 11) mdL false mix Go.Proofs.Tryd.func25 rfl (by simp [Go.Proofs.Tryd.f25]) Go.Proofs.Tryd.ntmps25 (by simp) (by kernel_rfl) (rs := [.cell 2 42]) (tys := [42]) rfl rfl (by simp [finOK, A.ts, OWN, ownE, ownT]) (by simp [resOK, A.ts, OWN, ownE, ownT, DE]) ?_
  simp only [go_sem]
  repeat' (first
    | simp only [List.cons.injEq, A.c.injEq, A.a.injEq, T.v.injEq, T.s.injEq, Value.bool.injEq, Value.int.injEq, and_true, true_and]
    | apply And.intro
    | omega
    | fail)

theorem toEnt_l (a : LEnt) : Fn Go.Proofs.Tryd.prog 33 [.a (eLEnt a)] [.a [.d, .d, .d, .d, .d, .d, .d]] [.a (eLEnt (a))] := by
  refine E.Fn.ev (n := 12) mdL false mix Go.Proofs.Tryd.func33 rfl (by simp [Go.Proofs.Tryd.f33]) Go.Proofs.Tryd.ntmps33 (by simp) (by kernel_rfl) (rs := [.cell 2 64]) (tys := [64]) rfl rfl (by simp [finOK, A.ts, OWN, ownE, ownT]) (by simp [resOK, A.ts, OWN, ownE, ownT, DE]) ?_
  simp only [go_sem]
  repeat' (first
    | simp only [List.cons.injEq, A.c.injEq, A.a.injEq, T.v.injEq, T.s.injEq, Value.bool.injEq, Value.int.injEq, and_true, true_and]
    | (refine E.CALL.use (toOp_l _) ?_ <;> (try simp only [go_sem]))
    | apply And.intro
    | omega
    | fail)

theorem toI_l (l : List Int) (hl : l.length ≤ 1048576) : Fn Go.Proofs.Tryd.prog 32 [.c (.s false 1 (l.map eInt))] [.c .d] [.c (.s true 1 ((l).map eInt))] := by
  refine E.Fn.ev (n := 22) mdL false mix Go.Proofs.Tryd.func32 rfl (by simp [Go.Proofs.Tryd.f32]) Go.Proofs.Tryd.ntmps32 (by simp) (by kernel_rfl) (rs := [.tmp 2]) (tys := [22]) rfl rfl (by simp [finOK, A.ts, OWN, ownE, ownT]) (by simp [resOK, A.ts, OWN, ownE, ownT, DE]) ?_
  simp only [go_sem]
  repeat' (first
    | simp only [List.cons.injEq, A.c.injEq, A.a.injEq, T.v.injEq, T.s.injEq, Value.bool.injEq, Value.int.injEq, and_true, true_and]
    | (refine E.GB.use (fun h => ?_) (fun h => ?_) <;> (simp only [go_sem, h]) <;> (try simp only [decide_eq_true_eq, decide_eq_false_iff_not, Bool.not_eq_true', Bool.not_eq_false', Bool.not_eq_true, Bool.not_eq_false, beq_iff_eq, beq_eq_false_iff_ne, bne_iff_ne, bne_eq_false_iff_eq, Int.not_lt, Int.not_le, ne_eq] at h))
    | exact E.RK.mk (by kernel_rfl)
    | (refine E.IX_map ?_ (fun hx => ?_); rotate_left; simp only [go_sem])
    | (refine E.loopR (ι := Nat) 3 rfl (fun i => [(.s 4, .v (.c (.v (vi i)))), (.k (7, 0), .e ⟨0, 1, (E.cp l i (0 : Int)).map eInt⟩)]) [0, 2, 3, 21] [(7, 0)] [] (fun i => l.length - i) (fun i => i ≤ l.length ∧ (E.cp l i (0 : Int)).length = l.length) mix (by kernel_rfl) 0 ?_ ?_ (fun i ⟨hi, hw⟩ => ?_); all_goals (try simp (maxSteps := 900000) only [go_sem]); all_goals (try dsimp only at hi hw))
    | (refine E.NEXT.use [] (i + 1) ?_ ?_ ?_; rotate_left 2; focus (simp (maxSteps := 900000) only [go_sem]; (repeat' (first | with_reducible rfl | exact E.RK.mk (by kernel_rfl) | apply And.intro | (push_cast; with_reducible rfl) | (refine E.int_c ?_; omega) | (simp only [go_sem]; done) | (rw [List.map_append]; rfl) | (simp; done) | (simp only [*]; done) | (rw [← E.cp_set, List.map_set] <;> first | rfl | omega; done) | fail)); done))
    | apply And.intro
    | omega
    | refine congrArg (List.map _) ?_
    | (rw [E.cp_len (by omega)]; done)
    | (rw [E.cp_zero, ← zeros]; rfl; done)
    | (have e : i = l.length := (by omega); subst e; rw [E.cp_full]; done)
    | fail)

theorem toE_l (l : List LEnt) (hl : l.length ≤ 1048576) : Fn Go.Proofs.Tryd.prog 17 [.c (.s false 7 (l.map eLEnt))] [.c .d] [.c (.s true 7 ((l).map eLEnt))] := by
  refine E.Fn.ev (n := 23) mdL false mix Go.Proofs.Tryd.func17 rfl (by simp [Go.Proofs.Tryd.f17]) Go.Proofs.Tryd.ntmps17 (by simp) (by kernel_rfl) (rs := [.tmp 2]) (tys := [31]) rfl rfl (by simp [finOK, A.ts, OWN, ownE, ownT]) (by simp [resOK, A.ts, OWN, ownE, ownT, DE]) ?_
  simp only [go_sem]
  repeat' (first
    | simp only [List.cons.injEq, A.c.injEq, A.a.injEq, T.v.injEq, T.s.injEq, Value.bool.injEq, Value.int.injEq, and_true, true_and]
    | (refine E.CALL.use (toEnt_l _) ?_ <;> (try simp only [go_sem]))
    | (refine E.GB.use (fun h => ?_) (fun h => ?_) <;> (simp only [go_sem, h]) <;> (try simp only [decide_eq_true_eq, decide_eq_false_iff_not, Bool.not_eq_true', Bool.not_eq_false', Bool.not_eq_true, Bool.not_eq_false, beq_iff_eq, beq_eq_false_iff_ne, bne_iff_ne, bne_eq_false_iff_eq, Int.not_lt, Int.not_le, ne_eq] at h))
    | exact E.RK.mk (by kernel_rfl)
    | (refine E.IX_map ?_ (fun hx => ?_); rotate_left; simp only [go_sem])
    | (refine E.loopR (ι := Nat) 3 rfl (fun i => [(.s 4, .v (.c (.v (vi i)))), (.k (7, 0), .e ⟨0, 7, (E.cp l i (default : LEnt)).map eLEnt⟩)]) [0, 2, 3, 22] [(7, 0)] [] (fun i => l.length - i) (fun i => i ≤ l.length ∧ (E.cp l i (default : LEnt)).length = l.length) mix (by kernel_rfl) 0 ?_ ?_ (fun i ⟨hi, hw⟩ => ?_); all_goals (try simp (maxSteps := 900000) only [go_sem]); all_goals (try dsimp only at hi hw))
    | (refine E.NEXT.use [] (i + 1) ?_ ?_ ?_; rotate_left 2; focus (simp (maxSteps := 900000) only [go_sem]; (repeat' (first | with_reducible rfl | exact E.RK.mk (by kernel_rfl) | apply And.intro | (push_cast; with_reducible rfl) | (refine E.int_c ?_; omega) | (simp only [go_sem]; done) | (rw [List.map_append]; rfl) | (simp; done) | (simp only [*]; done) | (rw [← E.cp_set, List.map_set] <;> first | rfl | omega; done) | fail)); done))
    | apply And.intro
    | omega
    | refine congrArg (List.map _) ?_
    | (rw [E.cp_len (by omega)]; done)
    | (rw [E.cp_zero, ← zeros]; rfl; done)
    | (have e : i = l.length := (by omega); subst e; rw [E.cp_full]; done)
    | fail)

theorem toC_l (a : Conf) (hB : ConfB a) : Fn Go.Proofs.Tryd.prog 16 [.a (eConf false a)] [.a [.d, .d, .d, .d]] [.a (eConf true (a))] := by
  refine E.Fn.ev (n := 19) mdL false mix Go.Proofs.Tryd.func16 rfl (by simp [Go.Proofs.Tryd.f16]) Go.Proofs.Tryd.ntmps16 (by simp) (by kernel_rfl) (rs := [.cell 2 30]) (tys := [30]) rfl rfl (by simp [finOK, A.ts, OWN, ownE, ownT]) (by simp [resOK, A.ts, OWN, ownE, ownT, DE]) ?_
  simp only [go_sem]
  repeat' (first
    | simp only [List.cons.injEq, A.c.injEq, A.a.injEq, T.v.injEq, T.s.injEq, Value.bool.injEq, Value.int.injEq, and_true, true_and]
    | (refine E.CALL.use (toI_l _ ?_) ?_ <;> (try simp only [go_sem]))
    | apply And.intro
    | omega
    | (exact ConfB.r (by assumption); done)
    | (exact ConfB.w (by assumption); done)
    | fail)

theorem toS_l (a : Srv) (hB : SrvB a) : Fn Go.Proofs.Tryd.prog 7 [.a (eSrv false a)] [.a [.d, .d, .d, .d, .d, .d, .d, .d, .d, .d, .d, .d]] [.a (eSrv true (a))] := by
  refine E.Fn.ev (n := 35) mdL false mix Go.Proofs.Tryd.func7 rfl (by simp [Go.Proofs.Tryd.f7]) Go.Proofs.Tryd.ntmps7 (by simp) (by kernel_rfl) (rs := [.cell 2 33]) (tys := [33]) rfl rfl (by simp [finOK, A.ts, OWN, ownE, ownT]) (by simp [resOK, A.ts, OWN, ownE, ownT, DE]) ?_
  simp only [go_sem]
  repeat' (first
    | simp only [List.cons.injEq, A.c.injEq, A.a.injEq, T.v.injEq, T.s.injEq, Value.bool.injEq, Value.int.injEq, and_true, true_and]
    | (refine E.CALL.use (toC_l _ ?_) ?_ <;> (try simp only [go_sem]))
    | (refine E.CALL.use (toE_l _ ?_) ?_ <;> (try simp only [go_sem]))
    | apply And.intro
    | omega
    | (exact SrvB.conf (by assumption); done)
    | (exact SrvB.log (by assumption); done)
    | (exact SrvB.learned (by assumption); done)
    | fail)

end
section
attribute [local go_sem] mdG_eq mdM toNat_pred setI List.length_set mdL_eq E.b_rem decE_self decN_self
theorem eqOp_l (a : ROp) (b : ROp) : Fn Go.Proofs.Tryd.prog 45 [.a (eROp a), .a (eROp b)] [.a [.d, .d, .d, .d, .d, .d], .a [.d, .d, .d, .d, .d, .d]] [.c (.v (.bool (decide (a = b))))] := by
  refine E.Fn.ev (n := 35) mdL false mix Go.Proofs.Tryd.func45 rfl (by simp [Go.Proofs.Tryd.f45]) Go.Proofs.Tryd.ntmps45 (by simp) (by kernel_rfl) (rs := [.tmp 4]) (tys := [4]) rfl rfl (by simp [finOK, A.ts, OWN, ownE, ownT]) (by simp [resOK, A.ts, OWN, ownE, ownT, DE]) ?_
  simp only [go_sem]
  repeat' (first
    | simp only [List.cons.injEq, A.c.injEq, A.a.injEq, T.v.injEq, T.s.injEq, Value.bool.injEq, Value.int.injEq, and_true, true_and]
    | (refine E.GB.use (fun h => ?_) (fun h => ?_) <;> (simp only [go_sem, h]) <;> (try simp only [decide_eq_true_eq, decide_eq_false_iff_not, Bool.not_eq_true', Bool.not_eq_false', Bool.not_eq_true, Bool.not_eq_false, beq_iff_eq, beq_eq_false_iff_ne, bne_iff_ne, bne_eq_false_iff_eq, Int.not_lt, Int.not_le, ne_eq] at h))
    | apply And.intro
    | omega
    | (symm; rw [decide_eq_true_eq]; cases a; cases b; simp_all; done)
    | (symm; rw [decide_eq_false_iff_not]; intro e; subst e; simp_all; done)
    | fail)

theorem eqEnt_l (a : LEnt) (b : LEnt) : Fn Go.Proofs.Tryd.prog 36 [.a (eLEnt a), .a (eLEnt b)] [.a [.d, .d, .d, .d, .d, .d, .d], .a [.d, .d, .d, .d, .d, .d, .d]] [.c (.v (.bool (decide (a = b))))] := by
  refine E.Fn.ev (n := 16) mdL false mix Go.Proofs.Tryd.func36 rfl (by simp [Go.Proofs.Tryd.f36]) Go.Proofs.Tryd.ntmps36 (by simp) (by kernel_rfl) (rs := [.tmp 4]) (tys := [4]) rfl rfl (by simp [finOK, A.ts, OWN, ownE, ownT]) (by simp [resOK, A.ts, OWN, ownE, ownT, DE]) ?_
  simp only [go_sem]
  repeat' (first
    | simp only [List.cons.injEq, A.c.injEq, A.a.injEq, T.v.injEq, T.s.injEq, Value.bool.injEq, Value.int.injEq, and_true, true_and]
    | (refine E.CALL.use (eqOp_l _ _) ?_ <;> (try simp only [go_sem]))
    | (refine E.GB.use (fun h => ?_) (fun h => ?_) <;> (simp only [go_sem, h]) <;> (try simp only [decide_eq_true_eq, decide_eq_false_iff_not, Bool.not_eq_true', Bool.not_eq_false', Bool.not_eq_true, Bool.not_eq_false, beq_iff_eq, beq_eq_false_iff_ne, bne_iff_ne, bne_eq_false_iff_eq, Int.not_lt, Int.not_le, ne_eq] at h))
    | apply And.intro
    | omega
    | (symm; rw [decide_eq_true_eq]; cases a; cases b; simp_all; done)
    | (symm; rw [decide_eq_false_iff_not]; intro e; subst e; simp_all; done)
    | fail)

theorem eqE_l (a : List LEnt) (b : List LEnt) (ha : a.length ≤ 1048576) (hb : b.length ≤ 1048576) : Fn Go.Proofs.Tryd.prog 20 [.c (.s false 7 (a.map eLEnt)), .c (.s false 7 (b.map eLEnt))] [.c .d, .c .d] [.c (.v (.bool (decide (a = b))))] := by
  refine E.Fn.ev (n := 27) mdL false mix Go.Proofs.Tryd.func20 rfl (by simp [Go.Proofs.Tryd.f20]) Go.Proofs.Tryd.ntmps20 (by simp) (by kernel_rfl) (rs := [.tmp 4]) (tys := [4]) rfl rfl (by simp [finOK, A.ts, OWN, ownE, ownT]) (by simp [resOK, A.ts, OWN, ownE, ownT, DE]) ?_
  simp only [go_sem]
  repeat' (first
    | simp only [List.cons.injEq, A.c.injEq, A.a.injEq, T.v.injEq, T.s.injEq, Value.bool.injEq, Value.int.injEq, and_true, true_and]
    | (refine E.CALL.use (eqEnt_l _ _) ?_ <;> (try simp only [go_sem]))
    | (refine E.GB.use (fun h => ?_) (fun h => ?_) <;> (simp only [go_sem, h]) <;> (try simp only [decide_eq_true_eq, decide_eq_false_iff_not, Bool.not_eq_true', Bool.not_eq_false', Bool.not_eq_true, Bool.not_eq_false, beq_iff_eq, beq_eq_false_iff_ne, bne_iff_ne, bne_eq_false_iff_eq, Int.not_lt, Int.not_le, ne_eq] at h))
    | exact E.INDEP.mk2 (by kernel_rfl)
    | exact E.RK.mk (by kernel_rfl)
    | (refine E.IX_map ?_ (fun hx => ?_); rotate_left; simp only [go_sem])
    | (refine E.loopR (ι := Nat) 4 rfl (fun i => [(.s 5, .v (.c (.v (vi i))))]) [0, 1] [] [] (fun i => a.length - i) (fun i => i ≤ a.length ∧ a.length = b.length ∧ decide (a.drop i = b.drop i) = decide (a = b)) mix (by kernel_rfl) 0 ?_ ?_ (fun i ⟨hi, hl, hR⟩ => ?_); all_goals (try simp (maxSteps := 900000) only [go_sem]); all_goals (try dsimp only at hi hl hR))
    | (refine E.NEXT.use [] (i + 1) ?_ ?_ ?_; rotate_left 2; focus (simp (maxSteps := 900000) only [go_sem]; (repeat' (first | with_reducible rfl | exact E.RK.mk (by kernel_rfl) | apply And.intro | (push_cast; with_reducible rfl) | (refine E.int_c ?_; omega) | (simp only [go_sem]; done) | (rw [List.map_append]; rfl) | (simp; done) | (simp only [*]; done) | fail)); done))
    | apply And.intro
    | omega
    | (exact eqS_1 (by omega) (by omega) h hR; done)
    | (exact eqS_0 (by omega) (by omega) h hR; done)
    | (exact eqS_e (by omega) (by omega) hR; done)
    | (exact eqS_n (by omega); done)
    | fail)

end
section
attribute [local go_sem] mdG_eq mdM toNat_pred setI List.length_set mdL_eq E.b_rem decE_self decN_self
theorem eqC_l (a : Conf) (b : Conf) (ha : ConfB a) (hb : ConfB b) : Fn Go.Proofs.Tryd.prog 19 [.a (eConf false a), .a (eConf false b)] [.a [.d, .d, .d, .d], .a [.d, .d, .d, .d]] [.c (.v (.bool (decide (a = b))))] := by
  refine E.Fn.ev (n := 27) mdL false mix Go.Proofs.Tryd.func19 rfl (by simp [Go.Proofs.Tryd.f19]) Go.Proofs.Tryd.ntmps19 (by simp) (by kernel_rfl) (rs := [.tmp 4]) (tys := [4]) rfl rfl (by simp [finOK, A.ts, OWN, ownE, ownT]) (by simp [resOK, A.ts, OWN, ownE, ownT, DE]) ?_
  simp only [go_sem]
  repeat' (first
    | simp only [List.cons.injEq, A.c.injEq, A.a.injEq, T.v.injEq, T.s.injEq, Value.bool.injEq, Value.int.injEq, and_true, true_and]
    | (refine E.CALL.use (eqIntS_l _ _ ?_ ?_) ?_ <;> (try simp only [go_sem]))
    | (refine E.GB.use (fun h => ?_) (fun h => ?_) <;> (simp only [go_sem, h]) <;> (try simp only [decide_eq_true_eq, decide_eq_false_iff_not, Bool.not_eq_true', Bool.not_eq_false', Bool.not_eq_true, Bool.not_eq_false, beq_iff_eq, beq_eq_false_iff_ne, bne_iff_ne, bne_eq_false_iff_eq, Int.not_lt, Int.not_le, ne_eq] at h))
    | apply And.intro
    | omega
    | (exact ConfB.r (by assumption); done)
    | (exact ConfB.w (by assumption); done)
    | (symm; rw [decide_eq_true_eq]; cases a; cases b; simp_all; done)
    | (symm; rw [decide_eq_false_iff_not]; intro e; subst e; simp_all; done)
    | fail)

theorem eqS_l (a : Srv) (b : Srv) (ha : SrvB a) (hb : SrvB b) : Fn Go.Proofs.Tryd.prog 9 [.a (eSrv false a), .a (eSrv false b)] [.a [.d, .d, .d, .d, .d, .d, .d, .d, .d, .d, .d, .d], .a [.d, .d, .d, .d, .d, .d, .d, .d, .d, .d, .d, .d]] [.c (.v (.bool (decide (a = b))))] := by
  refine E.Fn.ev (n := 53) mdL false mix Go.Proofs.Tryd.func9 rfl (by simp [Go.Proofs.Tryd.f9]) Go.Proofs.Tryd.ntmps9 (by simp) (by kernel_rfl) (rs := [.tmp 4]) (tys := [4]) rfl rfl (by simp [finOK, A.ts, OWN, ownE, ownT]) (by simp [resOK, A.ts, OWN, ownE, ownT, DE]) ?_
  simp only [go_sem]
  repeat' (first
    | simp only [List.cons.injEq, A.c.injEq, A.a.injEq, T.v.injEq, T.s.injEq, Value.bool.injEq, Value.int.injEq, and_true, true_and]
    | (refine E.CALL.use (eqC_l _ _ ?_ ?_) ?_ <;> (try simp only [go_sem]))
    | (refine E.CALL.use (eqE_l _ _ ?_ ?_) ?_ <;> (try simp only [go_sem]))
    | (refine E.GB.use (fun h => ?_) (fun h => ?_) <;> (simp only [go_sem, h]) <;> (try simp only [decide_eq_true_eq, decide_eq_false_iff_not, Bool.not_eq_true', Bool.not_eq_false', Bool.not_eq_true, Bool.not_eq_false, beq_iff_eq, beq_eq_false_iff_ne, bne_iff_ne, bne_eq_false_iff_eq, Int.not_lt, Int.not_le, ne_eq] at h))
    | apply And.intro
    | omega
    | (exact SrvB.conf (by assumption); done)
    | (exact SrvB.log (by assumption); done)
    | (exact SrvB.learned (by assumption); done)
    | (symm; rw [decide_eq_true_eq]; cases a; cases b; simp_all; done)
    | (symm; rw [decide_eq_false_iff_not]; intro e; subst e; simp_all; done)
    | fail)

end
section
attribute [local go_sem] mdG_eq mdM toNat_pred setI List.length_set mdL_eq E.b_rem decE_self decN_self
theorem szI_l (l : List Int) (left : Int) (hl : l.length ≤ maxLen) (h0 : 0 ≤ left) (h1 : left ≤ 1048576) : Fn Go.Proofs.Tryd.prog 30 [.c (.s false 1 (l.map eInt)), .c (.v (vi left))] [.c .d, .c .d] [.c (.v (vi (szR left l.length)))] := by
  refine E.Fn.ev (n := 12) mdL false mix Go.Proofs.Tryd.func30 rfl (by simp [Go.Proofs.Tryd.f30]) Go.Proofs.Tryd.ntmps30 (by simp) (by kernel_rfl) (rs := [.tmp 4]) (tys := [3]) rfl rfl (by simp [finOK, A.ts, OWN, ownE, ownT]) (by simp [resOK, A.ts, OWN, ownE, ownT, DE]) ?_
  simp only [go_sem]
  repeat' (first
    | simp only [List.cons.injEq, A.c.injEq, A.a.injEq, T.v.injEq, T.s.injEq, Value.bool.injEq, Value.int.injEq, and_true, true_and]
    | (refine E.GB.use (fun h => ?_) (fun h => ?_) <;> (simp only [go_sem, h]) <;> (try simp only [decide_eq_true_eq, decide_eq_false_iff_not, Bool.not_eq_true', Bool.not_eq_false', Bool.not_eq_true, Bool.not_eq_false, beq_iff_eq, beq_eq_false_iff_ne, bne_iff_ne, bne_eq_false_iff_eq, Int.not_lt, Int.not_le, ne_eq] at h))
    | apply And.intro
    | omega
    | (have q : l.length ≤ 9223372036854775807 := hl; omega; done)
    | ((unfold szR; omega); done)
    | fail)

theorem szE_l (l : List LEnt) (left : Int) (hl : l.length ≤ maxLen) (h0 : 0 ≤ left) (h1 : left ≤ 1048576) : Fn Go.Proofs.Tryd.prog 14 [.c (.s false 7 (l.map eLEnt)), .c (.v (vi left))] [.c .d, .c .d] [.c (.v (vi (szR left l.length)))] := by
  refine E.Fn.ev (n := 12) mdL false mix Go.Proofs.Tryd.func14 rfl (by simp [Go.Proofs.Tryd.f14]) Go.Proofs.Tryd.ntmps14 (by simp) (by kernel_rfl) (rs := [.tmp 4]) (tys := [3]) rfl rfl (by simp [finOK, A.ts, OWN, ownE, ownT]) (by simp [resOK, A.ts, OWN, ownE, ownT, DE]) ?_
  simp only [go_sem]
  repeat' (first
    | simp only [List.cons.injEq, A.c.injEq, A.a.injEq, T.v.injEq, T.s.injEq, Value.bool.injEq, Value.int.injEq, and_true, true_and]
    | (refine E.GB.use (fun h => ?_) (fun h => ?_) <;> (simp only [go_sem, h]) <;> (try simp only [decide_eq_true_eq, decide_eq_false_iff_not, Bool.not_eq_true', Bool.not_eq_false', Bool.not_eq_true, Bool.not_eq_false, beq_iff_eq, beq_eq_false_iff_ne, bne_iff_ne, bne_eq_false_iff_eq, Int.not_lt, Int.not_le, ne_eq] at h))
    | apply And.intro
    | omega
    | (have q : l.length ≤ 9223372036854775807 := hl; omega; done)
    | ((unfold szR; omega); done)
    | fail)

theorem szC_l (a : Conf) (left : Int) (hL : LnConf a) (h0 : 0 ≤ left) (h1 : left ≤ 1048576) : Fn Go.Proofs.Tryd.prog 13 [.a (eConf false a), .c (.v (vi left))] [.a [.d, .d, .d, .d], .c .d] [.c (.v (vi (szR left (sizeC a))))] := by
  refine E.Fn.ev (n := 18) mdL false mix Go.Proofs.Tryd.func13 rfl (by simp [Go.Proofs.Tryd.f13]) Go.Proofs.Tryd.ntmps13 (by simp) (by kernel_rfl) (rs := [.tmp 4]) (tys := [3]) rfl rfl (by simp [finOK, A.ts, OWN, ownE, ownT]) (by simp [resOK, A.ts, OWN, ownE, ownT, DE]) ?_
  simp only [go_sem]
  repeat' (first
    | simp only [List.cons.injEq, A.c.injEq, A.a.injEq, T.v.injEq, T.s.injEq, Value.bool.injEq, Value.int.injEq, and_true, true_and]
    | (refine E.CALL.use (szI_l _ _ ?_ ?_ ?_) ?_ <;> (try simp only [go_sem]))
    | (refine E.GB.use (fun h => ?_) (fun h => ?_) <;> (simp only [go_sem, h]) <;> (try simp only [decide_eq_true_eq, decide_eq_false_iff_not, Bool.not_eq_true', Bool.not_eq_false', Bool.not_eq_true, Bool.not_eq_false, beq_iff_eq, beq_eq_false_iff_ne, bne_iff_ne, bne_eq_false_iff_eq, Int.not_lt, Int.not_le, ne_eq] at h))
    | apply And.intro
    | omega
    | (exact hL.1; done)
    | (exact hL.2; done)
    | ((simp only [szR, sizeC] at *; omega); done)
    | fail)

theorem szS_l (a : Srv) (left : Int) (hL : LnSrv a) (h0 : 0 ≤ left) (h1 : left ≤ 1048576) : Fn Go.Proofs.Tryd.prog 5 [.a (eSrv false a), .c (.v (vi left))] [.a [.d, .d, .d, .d, .d, .d, .d, .d, .d, .d, .d, .d], .c .d] [.c (.v (vi (szR left (sizeS a))))] := by
  refine E.Fn.ev (n := 24) mdL false mix Go.Proofs.Tryd.func5 rfl (by simp [Go.Proofs.Tryd.f5]) Go.Proofs.Tryd.ntmps5 (by simp) (by kernel_rfl) (rs := [.tmp 4]) (tys := [3]) rfl rfl (by simp [finOK, A.ts, OWN, ownE, ownT]) (by simp [resOK, A.ts, OWN, ownE, ownT, DE]) ?_
  simp only [go_sem]
  repeat' (first
    | simp only [List.cons.injEq, A.c.injEq, A.a.injEq, T.v.injEq, T.s.injEq, Value.bool.injEq, Value.int.injEq, and_true, true_and]
    | (refine E.CALL.use (szC_l _ _ ?_ ?_ ?_) ?_ <;> (try simp only [go_sem]))
    | (refine E.CALL.use (szE_l _ _ ?_ ?_ ?_) ?_ <;> (try simp only [go_sem]))
    | (refine E.GB.use (fun h => ?_) (fun h => ?_) <;> (simp only [go_sem, h]) <;> (try simp only [decide_eq_true_eq, decide_eq_false_iff_not, Bool.not_eq_true', Bool.not_eq_false', Bool.not_eq_true, Bool.not_eq_false, beq_iff_eq, beq_eq_false_iff_ne, bne_iff_ne, bne_eq_false_iff_eq, Int.not_lt, Int.not_le, ne_eq] at h))
    | apply And.intro
    | omega
    | (exact hL.1; done)
    | (exact hL.2.1; done)
    | (exact hL.2.2.1; done)
    | (exact hL.2.2.2; done)
    | ((have e1 := sizeC_ge a.conf; simp only [szR, sizeS] at *; omega); done)
    | fail)

end

end Go.Abs

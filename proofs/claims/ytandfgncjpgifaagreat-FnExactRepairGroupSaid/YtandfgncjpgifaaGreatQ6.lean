/- Contracts of functions of the program, over the abstract machine, and facts for them. No condition. -/
import Derived.Test.YtandfgncjpgifaaGreatFacts
import Derived.Test.YtandfgncjpgifaaGreatPure19
import Derived.Test.YtandfgncjpgifaaGreatQ10
import Derived.Test.YtandfgncjpgifaaGreatQ3
import Derived.Test.YtandfgncjpgifaaGreatQ8
set_option linter.unusedVariables false
set_option linter.unusedSimpArgs false
set_option linter.unnecessarySimpa false
set_option linter.constructorNameAsVariable false
set_option maxHeartbeats 4000000
set_option maxRecDepth 100000
namespace Go.Abs
open Go
attribute [local go_sem ↓] E.argsA_h E.wq_ret E.wq_req E.wq_bad E.wq_call E.wq_get E.wq_getO E.wq_getOs E.wq_getPs E.wq_fresh E.wq_anyNil E.wq_getR0 E.wq_getR E.wq_ixM E.wq_n E.wq_g E.wq_gn E.ev_skip E.ev_region E.ev_draw E.ev_seq E.ev_cond E.ev_block E.ev_exit E.ev_ret E.sq_n E.sq_e E.sq_r E.bl_n E.bl_e E.bl_r E.lp_n E.lp_e E.lp_r E.fk_n E.fk_r E.q_move E.q_assign E.q_pick E.q_bin E.q_binw E.q_un E.q_alloc E.q_box E.q_build E.q_buildS E.q_makeS E.q_load E.q_store E.q_nilCheck E.q_slice E.q_fieldAddr E.q_field E.q_indexAddr E.q_extract E.q_makeFunc E.q_call E.q_callT E.q_len E.q_append E.q_min E.q_max E.q_convert E.q_cap E.q_clear appendIM appendZM E.b_add E.b_sub E.b_mul E.b_eql E.b_neq E.b_lss E.b_leq E.b_gtr E.b_geq E.GO_tmp E.GO_int E.GO_bool E.GO_str E.GO_nil E.GO_func E.GOs_nil E.GOs_cons E.GPs_nil E.GPs_cons E.RW_nil E.RW_cons E.dstAt_0 E.dstAt_s E.keepL_nil E.keepL_s E.keepL_k E.rmN_nil E.rmN_cons E.memN_nil E.memN_cons E.memK_nil E.memK_cons E.ovl_nil E.ovl_kk E.ovl_sk E.ovl_ks E.ovl_ss ofL_s ofL_sk ofL_ks ofL_k ofL_nil E.CO_tmp E.CO_bool
attribute [local go_sem] E.RM_nil E.RM_cons E.kd_k E.sbr_eq E.s3_nil E.s3_s E.s3_k E.vr_c E.vr_a E.vr_p E.vr_q E.vr_t E.vr_f E.vr_u E.cr_r E.cr_v E.cr_b E.cr_n E.cr_u E.crs_nil E.crs_cons E.renK_nil E.renK_cons keysVs V.keys C.keys keysCs E.RG_nil E.RG_cons E.GV_v E.GB_true E.GB_false E.GX_b E.GG_t E.GG_f E.GG_u E.GU_some E.IX_0 E.IX_s E.CX_s E.FR_none E.EN_e E.GVB_b E.b_boolM E.b_nilM E.b_strM E.b_aggM
attribute [local go_sem] List.cons_append List.nil_append List.append_nil List.length_cons List.length_nil List.length_map List.length_append callM E.argsH_nil E.argsH_cons E.argH_c E.argH_a E.argH_f E.cellsH_nil E.cellsH_cons E.cellH_v E.cellH_b E.cellH_n E.cellH_nt E.cellH_u E.cellH_rt E.cellH_rf capsA capA callable backs backT resVs resV resC tupV lenV intV boolV getE getO entryL entryKs A.ts entryV entryC entryCs entryCap List.map_cons List.map_nil E.cut_n E.cut_r E.cutM plainL A.capOK szEs szE szT SZ whole toB toC List.drop_zero List.take_zero List.take_succ_cons List.drop_succ_cons resultsM resultM outM outM1 convs conv finAs finA finT finTs Int.toNat_natCast A.plain T.plain List.isEmpty_nil List.isEmpty_cons Bool.or_true Bool.true_or Bool.and_self List.getElem?_cons_zero List.getElem?_cons_succ Option.bind_some Option.bind_none Option.bind Nat.zero_add Nat.add_zero OWN BOR ONE SCAL DE ETA E.take_rest Int.toNat_zero E.take_map E.drop_map E.take_len1 List.take_length E.app_map Int.natCast_zero Int.sub_zero Int.toNat_sub partCells V.cells convsL appendM srcM E.scalEs_nil E.scalEs_cons E.oneEs_nil E.oneEs_cons List.all_cons List.all_nil T.one Bool.and_true gone ownEs ownE ownT borEs borE borT setRow splice List.set_cons_zero List.set_cons_succ optI getOpt sliceM ptrTo app_ofL T.isV Value.oneCell' fillC zeroC spliceC allV eqVs eqV minV maxV setAt setCell holed List.dropLast List.getLast?_singleton Option.getD_some Option.isSome_some Option.isSome_none Bool.and_false Bool.true_and Bool.false_and Option.map_some Option.map_none false_or true_or or_true rowAt cellAt E.constV_nil E.constV_int E.constV_bool E.constV_str E.setCell_set E.setCell_len setRow setAt List.dropLast_cons_cons List.dropLast_singleton List.getLast?_cons_cons
attribute [local go_sem_proc ↓] reduceIte
attribute [local go_sem_proc] Nat.reduceEqDiff reduceCtorEq Nat.reduceAdd Nat.reduceMul
attribute [local irreducible] E.argsH E.argH E.cellsH E.cellH E.GV E.GB E.GX E.GG E.GU E.IX E.CX E.RW E.FR E.EN E.CALL E.GO E.GOs E.GPs E.GVB E.KD E.RM E.RG E.CO E.WQ E.EV E.SQ E.BL E.LP E.FK E.S3 E.RK E.NEXT E.NQ E.INDEP
section
attribute [local go_sem] mdM toNat_pred
theorem copyM_s (m : MLog) (hml : m.confs.length ≤ 1048576) (hm : ∀ c ∈ m.confs, c.reps.length ≤ 1048576 ∧ c.wits.length ≤ 1048576) : Fn Go.Proofs.Tryz.prog 111 [.a (eMLog false m)] [.a [.d, .d]] [.a (eMLog true (m))] := by
  refine E.Fn.ev (n := 29) mdM false mix Go.Proofs.Tryz.func111 rfl (by simp [Go.Proofs.Tryz.f111]) Go.Proofs.Tryz.ntmps111 (by simp) (by kernel_rfl) (rs := [.cell 2 36]) (tys := [36]) rfl rfl (by simp [finOK, A.ts, OWN, ownE, ownT]) (by simp [resOK, A.ts, OWN, ownE, ownT, DE]) ?_
  simp only [go_sem]
  repeat' (first
    | simp only [IJS]
    | (refine E.CALL.use (copyC_s _ ?_ ?_) ?_ <;> (try simp only [go_sem]))
    | (refine E.GB.use (fun h => ?_) (fun h => ?_) <;> (simp only [go_sem, h]) <;> (try simp only [HFS] at h))
    | exact E.RK.mk (by kernel_rfl)
    | (refine E.IX_map ?_ (fun hx => ?_); rotate_left; simp only [go_sem])
    | (refine E.loopR (ι := Nat × Nat) 3 rfl (fun ⟨i, v⟩ => [(.s 4, .v (.c (.v (vi i)))), (.k (3, 0), .e ⟨v, 2, [[.s true 4 ((m.confs.take i).map (eConf true)), .v (vi m.act)]]⟩)]) [1, 2, 3, 28] [(3, 0)] [] (fun ⟨i, v⟩ => m.confs.length - i) (fun ⟨i, v⟩ => i ≤ m.confs.length ∧ v = v) mix (by kernel_rfl) (0, 1) ?_ ?_ (fun ⟨i, v⟩ ⟨hi, hv⟩ => ?_); all_goals (try simp (maxSteps := 900000) only [go_sem]); all_goals (try dsimp only at hi hv))
    | (refine E.NEXT.use [] (i + 1, v + 1) ?_ ?_ ?_; rotate_left 2; focus (simp (maxSteps := 900000) only [go_sem]; (repeat' (first | with_reducible rfl | exact E.RK.mk (by kernel_rfl) | apply And.intro | (push_cast; with_reducible rfl) | (refine E.int_c ?_; omega) | (simp only [go_sem]; done) | (rw [List.map_append]; rfl) | (simp; done) | (simp only [*]; done) | (rw [E.take_at, List.map_append] <;> first | rfl | omega; done) | fail)); done))
    | apply And.intro
    | omega
    | (simp only [List.length_take, List.length_drop, List.length_append, List.length_set, List.length_cons, List.length_nil]; omega)
    | refine congrArg (List.map _) ?_
    | (exact (hm _ (E.at_mem (by omega))).1; done)
    | (exact (hm _ (E.at_mem (by omega))).2; done)
    | (have e : i = m.confs.length := (by omega); subst e; simp; done)
    | fail)
theorem propose_s (m : MLog) (c : Conf) (hml : m.confs.length ≤ 1048576) (hm : ∀ c ∈ m.confs, c.reps.length ≤ 1048576 ∧ c.wits.length ≤ 1048576) (h1 : c.reps.length ≤ 1048576) (h2 : c.wits.length ≤ 1048576) : Fn Go.Proofs.Tryz.prog 166 [.a (eMLog false m), .a (eConf false c)] [.a [.d, .d], .a [.d, .d, .d, .d]] [.a (eMLog true ((proposeC m c).1)), .c (.v (.bool ((proposeC m c).2)))] := by
  refine E.Fn.ev (n := 35) mdM false mix Go.Proofs.Tryz.func166 rfl (by simp [Go.Proofs.Tryz.f166]) Go.Proofs.Tryz.ntmps166 (by simp) (by kernel_rfl) (rs := [.cell 4 36, .tmp 5]) (tys := [36, 4]) rfl rfl (by simp [finOK, A.ts, OWN, ownE, ownT]) (by simp [resOK, A.ts, OWN, ownE, ownT, DE]) ?_
  simp only [go_sem]
  repeat' (first
    | simp only [IJS]
    | (refine E.CALL.use (copyM_s _ ?_ ?_) ?_ <;> (try simp only [go_sem]))
    | (refine E.CALL.use (isML_s _ ?_ ?_) ?_ <;> (try simp only [go_sem]))
    | (refine E.CALL.use (validConf_s _ ?_ ?_) ?_ <;> (try simp only [go_sem]))
    | (refine E.CALL.use (copyC_s _ ?_ ?_) ?_ <;> (try simp only [go_sem]))
    | (refine E.GB.use (fun h => ?_) (fun h => ?_) <;> (simp only [go_sem, h]) <;> (try simp only [HFS] at h))
    | exact E.INDEP.mk2 (by kernel_rfl)
    | apply And.intro
    | omega
    | refine congrArg (List.map _) ?_
    | (simp [proposeC, *]; done)
    | (simp [proposeC, eConf_eq, *]; done)
    | fail)
theorem activate_s (m : MLog) (e : Int) (hml : m.confs.length ≤ 1048576) (hm : ∀ c ∈ m.confs, c.reps.length ≤ 1048576 ∧ c.wits.length ≤ 1048576) : Fn Go.Proofs.Tryz.prog 39 [.a (eMLog false m), .c (.v (vi e))] [.a [.d, .d], .c .d] [.a (eMLog true ((activateC m e).1)), .c (.v (.bool ((activateC m e).2)))] := by
  refine E.Fn.ev (n := 29) mdM false mix Go.Proofs.Tryz.func39 rfl (by simp [Go.Proofs.Tryz.f39]) Go.Proofs.Tryz.ntmps39 (by simp) (by kernel_rfl) (rs := [.cell 4 36, .tmp 5]) (tys := [36, 4]) rfl rfl (by simp [finOK, A.ts, OWN, ownE, ownT]) (by simp [resOK, A.ts, OWN, ownE, ownT, DE]) ?_
  simp only [go_sem]
  repeat' (first
    | simp only [IJS]
    | (refine E.CALL.use (copyM_s _ ?_ ?_) ?_ <;> (try simp only [go_sem]))
    | (refine E.CALL.use (isML_s _ ?_ ?_) ?_ <;> (try simp only [go_sem]))
    | (refine E.GB.use (fun h => ?_) (fun h => ?_) <;> (simp only [go_sem, h]) <;> (try simp only [HFS] at h))
    | apply And.intro
    | omega
    | refine congrArg (List.map _) ?_
    | (have h9 : decide (m.act < e) = false := (by simp; omega); simp [activateC, h9]; done)
    | (simp_all [activateC]; done)
    | fail)
theorem isLease_no {l : Lse} (h : ((l.epoch == 0) && ((l.holder == 0) && (l.til == 0))) = true) : l = noLse := by
  cases l; simp_all [noLse]
theorem isLease_ne {l : Lse} (h : ((l.epoch == 0) && ((l.holder == 0) && (l.til == 0))) = false) : l ≠ noLse := by
  rintro rfl; simp [noLse] at h
theorem isLease_s (l : Lse) : Fn Go.Proofs.Tryz.prog 115 [.a (eLse l)] [.a [.d, .d, .d]] [.c (.v (.bool (isLease l)))] := by
  refine E.Fn.ev (n := 19) mdM false mix Go.Proofs.Tryz.func115 rfl (by simp [Go.Proofs.Tryz.f115]) Go.Proofs.Tryz.ntmps115 (by simp) (by kernel_rfl) (rs := [.tmp 2]) (tys := [4]) rfl rfl (by simp [finOK, A.ts, OWN, ownE, ownT]) (by simp [resOK, A.ts, OWN, ownE, ownT, DE]) ?_
  simp only [go_sem]
  repeat' (first
    | simp only [IJS]
    | (refine E.CALL.use (in_s _ _ _) ?_ <;> (try simp only [go_sem]))
    | (refine E.GB.use (fun h => ?_) (fun h => ?_) <;> (simp only [go_sem, h]) <;> (try simp only [HFS] at h))
    | apply And.intro
    | omega
    | (have q := isLease_no h; subst q; simp [isLease]; done)
    | (have := isLease_ne (by assumption); simp_all [isLease]; done)
    | fail)
theorem isLease_til {l : Lse} (h : isLease l = true) : 0 ≤ l.til ∧ l.til ≤ 1049 ∧ (l.til = 0 → l = noLse) ∧ (l = noLse → l.til = 0) := by
  simp only [isLease, Bool.or_eq_true, beq_iff_eq, Bool.and_eq_true, inR_iff] at h
  rcases h with rfl | h
  · simp [noLse]
  · exact ⟨by omega, by omega, by omega, fun e => by subst e; simp [noLse] at h⟩
theorem safe_s (l : Lse) : Fn Go.Proofs.Tryz.prog 77 [.a (eLse l)] [.a [.d, .d, .d]] [.c (.v (vi (safeTime l)))] := by
  refine E.Fn.ev (n := 14) mdM false mix Go.Proofs.Tryz.func77 rfl (by simp [Go.Proofs.Tryz.f77]) Go.Proofs.Tryz.ntmps77 (by simp) (by kernel_rfl) (rs := [.tmp 2]) (tys := [3]) rfl rfl (by simp [finOK, A.ts, OWN, ownE, ownT]) (by simp [resOK, A.ts, OWN, ownE, ownT, DE]) ?_
  simp only [go_sem]
  repeat' (first
    | simp only [IJS]
    | (refine E.CALL.use (isLease_s _) ?_ <;> (try simp only [go_sem]))
    | (refine E.GB.use (fun h => ?_) (fun h => ?_) <;> (simp only [go_sem, h]) <;> (try simp only [HFS] at h))
    | apply And.intro
    | omega
    | (have q := isLease_til (by assumption); omega; done)
    | (have q := isLease_til (by assumption); have q1 := q.2.2.1 (by assumption); subst q1; simp [safeTime]; done)
    | (have q := isLease_til (by assumption); have q1 : l ≠ noLse := (fun e => by simp_all [noLse]); simp_all [safeTime]; done)
    | (simp_all [safeTime]; done)
    | fail)
theorem over_s (l : Lse) (now : Int) : Fn Go.Proofs.Tryz.prog 33 [.a (eLse l), .c (.v (vi now))] [.a [.d, .d, .d], .c .d] [.c (.v (.bool (leaseOver l now)))] := by
  refine E.Fn.ev (n := 17) mdM false mix Go.Proofs.Tryz.func33 rfl (by simp [Go.Proofs.Tryz.f33]) Go.Proofs.Tryz.ntmps33 (by simp) (by kernel_rfl) (rs := [.tmp 4]) (tys := [4]) rfl rfl (by simp [finOK, A.ts, OWN, ownE, ownT]) (by simp [resOK, A.ts, OWN, ownE, ownT, DE]) ?_
  simp only [go_sem]
  repeat' (first
    | simp only [IJS]
    | (refine E.CALL.use (isLease_s _) ?_ <;> (try simp only [go_sem]))
    | (refine E.CALL.use (in_s _ _ _) ?_ <;> (try simp only [go_sem]))
    | (refine E.CALL.use (safe_s _) ?_ <;> (try simp only [go_sem]))
    | (refine E.GB.use (fun h => ?_) (fun h => ?_) <;> (simp only [go_sem, h]) <;> (try simp only [HFS] at h))
    | apply And.intro
    | omega
    | (simp_all [leaseOver]; done)
    | fail)
theorem grant_s (l : Lse) (epoch : Int) (holder : Int) (now : Int) (term : Int) : Fn Go.Proofs.Tryz.prog 169 [.a (eLse l), .c (.v (vi epoch)), .c (.v (vi holder)), .c (.v (vi now)), .c (.v (vi term))] [.a [.d, .d, .d], .c .d, .c .d, .c .d, .c .d] [.a (eLse ((grant l epoch holder now term).1)), .c (.v (.bool ((grant l epoch holder now term).2)))] := by
  refine E.Fn.ev (n := 69) mdM false mix Go.Proofs.Tryz.func169 rfl (by simp [Go.Proofs.Tryz.f169]) Go.Proofs.Tryz.ntmps169 (by simp) (by kernel_rfl) (rs := [.cell 10 37, .tmp 11]) (tys := [37, 4]) rfl rfl (by simp [finOK, A.ts, OWN, ownE, ownT]) (by simp [resOK, A.ts, OWN, ownE, ownT, DE]) ?_
  simp only [go_sem]
  repeat' (first
    | simp only [IJS]
    | (refine E.CALL.use (isLease_s _) ?_ <;> (try simp only [go_sem]))
    | (refine E.CALL.use (in_s _ _ _) ?_ <;> (try simp only [go_sem]))
    | (refine E.CALL.use (over_s _ _) ?_ <;> (try simp only [go_sem]))
    | (refine E.GB.use (fun h => ?_) (fun h => ?_) <;> (simp only [go_sem, h]) <;> (try simp only [HFS] at h))
    | apply And.intro
    | omega
    | (have q1 := inR_of (x := now) (by assumption); have q2 := inR_of (x := term) (by assumption); omega; done)
    | (simp_all [grant]; done)
    | fail)
theorem copyS_s (s : Srv) (h1 : s.conf.reps.length ≤ 1048576) (h2 : s.conf.wits.length ≤ 1048576) (h3 : s.log.length ≤ 1048576) (h4 : s.learned.length ≤ 1048576) : Fn Go.Proofs.Tryz.prog 110 [.a (eSrv false s)] [.a [.d, .d, .d, .d, .d, .d, .d, .d, .d, .d, .d, .d]] [.a (eSrv true (s))] := by
  refine E.Fn.ev (n := 18) mdM false mix Go.Proofs.Tryz.func110 rfl (by simp [Go.Proofs.Tryz.f110]) Go.Proofs.Tryz.ntmps110 (by simp) (by kernel_rfl) (rs := [.cell 2 66]) (tys := [66]) rfl rfl (by simp [finOK, A.ts, OWN, ownE, ownT]) (by simp [resOK, A.ts, OWN, ownE, ownT, DE]) ?_
  simp only [go_sem]
  repeat' (first
    | simp only [IJS]
    | (refine E.CALL.use (copyC_s _ ?_ ?_) ?_ <;> (try simp only [go_sem]))
    | (refine E.CALL.use (copyL_s _ ?_) ?_ <;> (try simp only [go_sem]))
    | apply And.intro
    | omega
    | fail)
theorem role_cases (c : Conf) (id : Int) : roleOf c id = 0 ∨ roleOf c id = 1 ∨ roleOf c id = 2 ∨ roleOf c id = 3 := by
  unfold roleOf; repeat' split
  all_goals simp
theorem validSrv_s (s : Srv) (id : Int) (h1 : s.conf.reps.length ≤ 1048576) (h2 : s.conf.wits.length ≤ 1048576) (h3 : s.log.length ≤ 1048576) (h4 : s.learned.length ≤ 1048576) : Fn Go.Proofs.Tryz.prog 117 [.a (eSrv false s), .c (.v (vi id))] [.a [.d, .d, .d, .d, .d, .d, .d, .d, .d, .d, .d, .d], .c .d] [.c (.v (.bool (validSrv s id)))] := by
  refine E.Fn.ev (n := 118) mdM false mix Go.Proofs.Tryz.func117 rfl (by simp [Go.Proofs.Tryz.f117]) Go.Proofs.Tryz.ntmps117 (by simp) (by kernel_rfl) (rs := [.tmp 4]) (tys := [4]) rfl rfl (by simp [finOK, A.ts, OWN, ownE, ownT]) (by simp [resOK, A.ts, OWN, ownE, ownT, DE]) ?_
  simp only [go_sem]
  repeat' (first
    | simp only [IJS]
    | (refine E.CALL.use (in_s _ _ _) ?_ <;> (try simp only [go_sem]))
    | (refine E.CALL.use (isLog_s _ ?_) ?_ <;> (try simp only [go_sem]))
    | (refine E.CALL.use (none_s _ ?_ ?_) ?_ <;> (try simp only [go_sem]))
    | (refine E.CALL.use (lastE_s _ ?_) ?_ <;> (try simp only [go_sem]))
    | (refine E.CALL.use (role_s _ _ ?_ ?_) ?_ <;> (try simp only [go_sem]))
    | (refine E.GB.use (fun h => ?_) (fun h => ?_) <;> (simp only [go_sem, h]) <;> (try simp only [HFS] at h))
    | exact E.INDEP.mk2 (by kernel_rfl)
    | apply And.intro
    | omega
    | (have q1 := inR_of (x := s.first) (by assumption); omega; done)
    | (simp_all [validSrv]; done)
    | (have q1 := inR_of (x := s.first) (by assumption); have q2 := inR_no h; have h9 : decide (s.first + s.log.length ≤ 16) = false := (by simp; omega); simp [validSrv, h9]; done)
    | (have h9 : decide (s.conf.epoch ≤ s.epoch) = false := (by simp; omega); simp [validSrv, h9, *]; done)
    | (have h9 : decide (lastE s.log ≤ s.conf.epoch) = false := (by simp; omega); simp [validSrv, h9, *]; done)
    | (have h9 : decide ((s.log.length : Int) ≤ 3) = false := (by simp; omega); simp [validSrv, isTail, h9, *]; done)
    | (have q2 := inR_of (x := s.first + s.log.length) (by assumption); have h8 : decide (s.first + s.log.length ≤ 16) = true := (by simp; omega); have q3 := role_cases s.conf id; simp [validSrv, h8, *]; rcases q3 with q3 | q3 | q3 | q3 <;> simp_all; done)
    | (have q2 := inR_of (x := s.first + s.log.length) (by assumption); have h8 : s.first + s.log.length ≤ 16 := (by omega); have q1 := inR_of (x := s.first) (by assumption); have h9 : inR s.first 0 (16 - s.log.length) = true := (by simp [inR]; omega); simp_all [validSrv, isTail]; done)
    | fail)
end
section
attribute [local go_sem] mdG_eq mdM toNat_pred setI List.length_set
theorem cloneE_c (l : List LEnt) (hl : l.length ≤ 1048576) : Fn Go.Proofs.Tryz.prog 144 [.c (.s false 7 (l.map eLEnt))] [.c .d] [.c (.s true 7 ((l).map eLEnt))] := by
  refine E.Fn.ev (n := 8) mdG false mix Go.Proofs.Tryz.func144 rfl (by simp [Go.Proofs.Tryz.f144]) Go.Proofs.Tryz.ntmps144 (by simp) (by kernel_rfl) (rs := [.tmp 2]) (tys := [64]) rfl rfl (by simp [finOK, A.ts, OWN, ownE, ownT]) (by simp [resOK, A.ts, OWN, ownE, ownT, DE]) ?_
  simp only [go_sem]
  repeat' (first
    | simp only [IJS]
    | (refine E.GB.use (fun h => ?_) (fun h => ?_) <;> (simp only [go_sem, h]) <;> (try simp only [HFS] at h))
    | (refine E.NQ.use (fun b hb => ?_); simp only [go_sem])
    | apply And.intro
    | omega
    | (exact (hb h).symm; done)
    | fail)
theorem cloneP_c (l : List Plc) (hl : l.length ≤ 1048576) : Fn Go.Proofs.Tryz.prog 140 [.c (.s false 3 (l.map ePlc))] [.c .d] [.c (.s true 3 ((l).map ePlc))] := by
  refine E.Fn.ev (n := 8) mdG false mix Go.Proofs.Tryz.func140 rfl (by simp [Go.Proofs.Tryz.f140]) Go.Proofs.Tryz.ntmps140 (by simp) (by kernel_rfl) (rs := [.tmp 2]) (tys := [38]) rfl rfl (by simp [finOK, A.ts, OWN, ownE, ownT]) (by simp [resOK, A.ts, OWN, ownE, ownT, DE]) ?_
  simp only [go_sem]
  repeat' (first
    | simp only [IJS]
    | (refine E.GB.use (fun h => ?_) (fun h => ?_) <;> (simp only [go_sem, h]) <;> (try simp only [HFS] at h))
    | (refine E.NQ.use (fun b hb => ?_); simp only [go_sem])
    | apply And.intro
    | omega
    | (exact (hb h).symm; done)
    | fail)
theorem copyC_i (c : Conf) (h1 : c.reps.length ≤ 1048576) (h2 : c.wits.length ≤ 1048576) : Fn Go.Proofs.Tryz.prog 153 [.a (eConf false c)] [.a [.d, .d, .d, .d]] [.a (eConf true (c))] := by
  refine E.Fn.ev (n := 16) mdG false mix Go.Proofs.Tryz.func153 rfl (by simp [Go.Proofs.Tryz.f153]) Go.Proofs.Tryz.ntmps153 (by simp) (by kernel_rfl) (rs := [.cell 2 60]) (tys := [60]) rfl rfl (by simp [finOK, A.ts, OWN, ownE, ownT]) (by simp [resOK, A.ts, OWN, ownE, ownT, DE]) ?_
  simp only [go_sem]
  repeat' (first
    | simp only [IJS]
    | exact E.INDEP.mk2 (by kernel_rfl)
    | apply And.intro
    | omega
    | fail)
theorem copyS_i (s : Srv) (h1 : s.conf.reps.length ≤ 1048576) (h2 : s.conf.wits.length ≤ 1048576) (h3 : s.log.length ≤ 1048576) (h4 : s.learned.length ≤ 1048576) : Fn Go.Proofs.Tryz.prog 96 [.a (eSrv false s)] [.a [.d, .d, .d, .d, .d, .d, .d, .d, .d, .d, .d, .d]] [.a (eSrv true (s))] := by
  refine E.Fn.ev (n := 16) mdG false mix Go.Proofs.Tryz.func96 rfl (by simp [Go.Proofs.Tryz.f96]) Go.Proofs.Tryz.ntmps96 (by simp) (by kernel_rfl) (rs := [.cell 2 66]) (tys := [66]) rfl rfl (by simp [finOK, A.ts, OWN, ownE, ownT]) (by simp [resOK, A.ts, OWN, ownE, ownT, DE]) ?_
  simp only [go_sem]
  repeat' (first
    | simp only [IJS]
    | (refine E.CALL.use (copyC_i _ ?_ ?_) ?_ <;> (try simp only [go_sem]))
    | (refine E.CALL.use (cloneE_c _ ?_) ?_ <;> (try simp only [go_sem]))
    | exact E.INDEP.mk2 (by kernel_rfl)
    | apply And.intro
    | omega
    | fail)
theorem copyM_i (m : MLog) (hml : m.confs.length ≤ 1048576) (hm : ∀ c ∈ m.confs, c.reps.length ≤ 1048576 ∧ c.wits.length ≤ 1048576) : Fn Go.Proofs.Tryz.prog 139 [.a (eMLog false m)] [.a [.d, .d]] [.a (eMLog true (m))] := by
  refine E.Fn.ev (n := 25) mdG false mix Go.Proofs.Tryz.func139 rfl (by simp [Go.Proofs.Tryz.f139]) Go.Proofs.Tryz.ntmps139 (by simp) (by kernel_rfl) (rs := [.cell 2 36]) (tys := [36]) rfl rfl (by simp [finOK, A.ts, OWN, ownE, ownT]) (by simp [resOK, A.ts, OWN, ownE, ownT, DE]) ?_
  simp only [go_sem]
  repeat' (first
    | simp only [IJS]
    | (refine E.CALL.use (copyC_i _ ?_ ?_) ?_ <;> (try simp only [go_sem]))
    | (refine E.GB.use (fun h => ?_) (fun h => ?_) <;> (simp only [go_sem, h]) <;> (try simp only [HFS] at h))
    | exact E.INDEP.mk2 (by kernel_rfl)
    | exact E.RK.mk (by kernel_rfl)
    | (refine E.IX_map ?_ (fun hx => ?_); rotate_left; simp only [go_sem])
    | (refine E.loopR (ι := Nat × Nat) 3 rfl (fun ⟨i, v⟩ => [(.s 12, .v (.c (.v (vi i)))), (.k (3, 0), .e ⟨v, 2, [[.s true 4 ((m.confs.take i).map (eConf true)), .v (vi m.act)]]⟩)]) [2, 3, 10, 11, 24] [(3, 0)] [] (fun ⟨i, v⟩ => m.confs.length - i) (fun ⟨i, v⟩ => i ≤ m.confs.length ∧ v = v) mix (by kernel_rfl) (0, 1) ?_ ?_ (fun ⟨i, v⟩ ⟨hi, hv⟩ => ?_); all_goals (try simp (maxSteps := 900000) only [go_sem]); all_goals (try dsimp only at hi hv))
    | (refine E.NEXT.use [] (i + 1, v + 1) ?_ ?_ ?_; rotate_left 2; focus (simp (maxSteps := 900000) only [go_sem]; (repeat' (first | with_reducible rfl | exact E.RK.mk (by kernel_rfl) | apply And.intro | (push_cast; with_reducible rfl) | (refine E.int_c ?_; omega) | (simp only [go_sem]; done) | (rw [List.map_append]; rfl) | (simp; done) | (simp only [*]; done) | (rw [E.take_at, List.map_append] <;> first | rfl | omega; done) | fail)); done))
    | apply And.intro
    | omega
    | (simp only [List.length_take, List.length_drop, List.length_append, List.length_set, List.length_cons, List.length_nil]; omega)
    | refine congrArg (List.map _) ?_
    | (exact (hm _ (E.at_mem (by omega))).1; done)
    | (exact (hm _ (E.at_mem (by omega))).2; done)
    | (have e : i = m.confs.length := (by omega); subst e; simp; done)
    | fail)
theorem copyU_i (c : Clu) (hs : ∀ s ∈ c.srvs, (s.conf.reps.length ≤ 1048576 ∧ s.conf.wits.length ≤ 1048576) ∧ s.log.length ≤ 1048576 ∧ s.learned.length ≤ 1048576) (hsl : c.srvs.length ≤ 1048576) (hsd : c.sides.length ≤ 1048576) (hml : c.mast.confs.length ≤ 1048576) (hm : ∀ x ∈ c.mast.confs, x.reps.length ≤ 1048576 ∧ x.wits.length ≤ 1048576) (hpl : c.plcs.length ≤ 1048576) : Fn Go.Proofs.Tryz.prog 47 [.a (eClu false c)] [.a [.d, .d, .d, .d, .d, .d, .d, .d, .d, .d]] [.a (eClu true (c))] := by
  refine E.Fn.ev (n := 36) mdG false mix Go.Proofs.Tryz.func47 rfl (by simp [Go.Proofs.Tryz.f47]) Go.Proofs.Tryz.ntmps47 (by simp) (by kernel_rfl) (rs := [.cell 2 40]) (tys := [40]) rfl rfl (by simp [finOK, A.ts, OWN, ownE, ownT]) (by simp [resOK, A.ts, OWN, ownE, ownT, DE]) ?_
  simp only [go_sem]
  repeat' (first
    | simp only [IJS]
    | (refine E.CALL.use (copyS_i _ ?_ ?_ ?_ ?_) ?_ <;> (try simp only [go_sem]))
    | (refine E.CALL.use (clone_c _ ?_) ?_ <;> (try simp only [go_sem]))
    | (refine E.CALL.use (copyM_i _ ?_ ?_) ?_ <;> (try simp only [go_sem]))
    | (refine E.CALL.use (cloneP_c _ ?_) ?_ <;> (try simp only [go_sem]))
    | (refine E.GB.use (fun h => ?_) (fun h => ?_) <;> (simp only [go_sem, h]) <;> (try simp only [HFS] at h))
    | exact E.INDEP.mk2 (by kernel_rfl)
    | exact E.RK.mk (by kernel_rfl)
    | (refine E.IX_map ?_ (fun hx => ?_); rotate_left; simp only [go_sem])
    | (refine E.loopR (ι := Nat × Nat) 4 rfl (fun ⟨i, v⟩ => [(.s 11, .v (.c (.v (vi i)))), (.k (3, 0), .e ⟨v, 10, [[.v (vi c.now), .s true 12 ((c.srvs.take i).map (eSrv true)), .s false 1 (c.sides.map eInt), .s false 4 (c.mast.confs.map (eConf false)), .v (vi c.mast.act), .v (vi c.mup), .v (vi c.lse.epoch), .v (vi c.lse.holder), .v (vi c.lse.til), .s false 3 (c.plcs.map ePlc)]]⟩)]) [1, 2, 3, 9, 10, 23, 24, 25, 26, 27, 28, 29, 30, 31, 32, 33, 34, 35] [(3, 0)] [] (fun ⟨i, v⟩ => c.srvs.length - i) (fun ⟨i, v⟩ => i ≤ c.srvs.length ∧ v = v) mix (by kernel_rfl) (0, 2) ?_ ?_ (fun ⟨i, v⟩ ⟨hi, hv⟩ => ?_); all_goals (try simp (maxSteps := 900000) only [go_sem]); all_goals (try dsimp only at hi hv))
    | (refine E.NEXT.use [] (i + 1, v + 1) ?_ ?_ ?_; rotate_left 2; focus (simp (maxSteps := 900000) only [go_sem]; (repeat' (first | with_reducible rfl | exact E.RK.mk (by kernel_rfl) | apply And.intro | (push_cast; with_reducible rfl) | (refine E.int_c ?_; omega) | (simp only [go_sem]; done) | (rw [List.map_append]; rfl) | (simp; done) | (simp only [*]; done) | (rw [E.take_at, List.map_append] <;> first | rfl | omega; done) | fail)); done))
    | apply And.intro
    | omega
    | (simp only [List.length_take, List.length_drop, List.length_append, List.length_set, List.length_cons, List.length_nil]; omega)
    | refine congrArg (List.map _) ?_
    | (exact (hs _ (E.at_mem (by omega))).1.1; done)
    | (exact (hs _ (E.at_mem (by omega))).1.2; done)
    | (exact (hs _ (E.at_mem (by omega))).2.1; done)
    | (exact (hs _ (E.at_mem (by omega))).2.2; done)
    | (rw [List.take_of_length_le (by omega)]; done)
    | fail)
theorem validConf_i (c : Conf) (h1 : c.reps.length ≤ 1048576) (h2 : c.wits.length ≤ 1048576) : Fn Go.Proofs.Tryz.prog 146 [.a (eConf false c)] [.a [.d, .d, .d, .d]] [.c (.v (.bool (validConf c)))] := by
  refine E.Fn.ev (n := 32) mdG false mix Go.Proofs.Tryz.func146 rfl (by simp [Go.Proofs.Tryz.f146]) Go.Proofs.Tryz.ntmps146 (by simp) (by kernel_rfl) (rs := [.tmp 2]) (tys := [4]) rfl rfl (by simp [finOK, A.ts, OWN, ownE, ownT]) (by simp [resOK, A.ts, OWN, ownE, ownT, DE]) ?_
  simp only [go_sem]
  repeat' (first
    | simp only [IJS]
    | (refine E.CALL.use (in_i _ _ _) ?_ <;> (try simp only [go_sem]))
    | (refine E.CALL.use (areSrv_i _ ?_) ?_ <;> (try simp only [go_sem]))
    | (refine E.CALL.use (has_i _ _ ?_) ?_ <;> (try simp only [go_sem]))
    | (refine E.CALL.use (common_i _ _ ?_ ?_) ?_ <;> (try simp only [go_sem]))
    | (refine E.GB.use (fun h => ?_) (fun h => ?_) <;> (simp only [go_sem, h]) <;> (try simp only [HFS] at h))
    | apply And.intro
    | omega
    | (have := areServers_len (l := c.reps) (by assumption); omega; done)
    | (simp_all [validConf]; done)
    | fail)
theorem role_i (c : Conf) (id : Int) (h1 : c.reps.length ≤ 1048576) (h2 : c.wits.length ≤ 1048576) : Fn Go.Proofs.Tryz.prog 94 [.a (eConf false c), .c (.v (vi id))] [.a [.d, .d, .d, .d], .c .d] [.c (.v (vi (roleOf c id)))] := by
  refine E.Fn.ev (n := 24) mdG false mix Go.Proofs.Tryz.func94 rfl (by simp [Go.Proofs.Tryz.f94]) Go.Proofs.Tryz.ntmps94 (by simp) (by kernel_rfl) (rs := [.tmp 4]) (tys := [3]) rfl rfl (by simp [finOK, A.ts, OWN, ownE, ownT]) (by simp [resOK, A.ts, OWN, ownE, ownT, DE]) ?_
  simp only [go_sem]
  repeat' (first
    | simp only [IJS]
    | (refine E.CALL.use (validConf_i _ ?_ ?_) ?_ <;> (try simp only [go_sem]))
    | (refine E.CALL.use (has_i _ _ ?_) ?_ <;> (try simp only [go_sem]))
    | (refine E.GB.use (fun h => ?_) (fun h => ?_) <;> (simp only [go_sem, h]) <;> (try simp only [HFS] at h))
    | apply And.intro
    | omega
    | (simp_all [roleOf]; done)
    | fail)
theorem isML_i (m : MLog) (hml : m.confs.length ≤ 1048576) (hm : ∀ c ∈ m.confs, c.reps.length ≤ 1048576 ∧ c.wits.length ≤ 1048576) : Fn Go.Proofs.Tryz.prog 133 [.a (eMLog false m)] [.a [.d, .d]] [.c (.v (.bool (isML m)))] := by
  refine E.Fn.ev (n := 30) mdG false mix Go.Proofs.Tryz.func133 rfl (by simp [Go.Proofs.Tryz.f133]) Go.Proofs.Tryz.ntmps133 (by simp) (by kernel_rfl) (rs := [.tmp 2]) (tys := [4]) rfl rfl (by simp [finOK, A.ts, OWN, ownE, ownT]) (by simp [resOK, A.ts, OWN, ownE, ownT, DE]) ?_
  simp only [go_sem]
  repeat' (first
    | simp only [IJS]
    | (refine E.CALL.use (validConf_i _ ?_ ?_) ?_ <;> (try simp only [go_sem]))
    | (refine E.CALL.use (in_i _ _ _) ?_ <;> (try simp only [go_sem]))
    | (refine E.GB.use (fun h => ?_) (fun h => ?_) <;> (simp only [go_sem, h]) <;> (try simp only [HFS] at h))
    | exact E.RK.mk (by kernel_rfl)
    | (refine E.IX_map ?_ (fun hx => ?_); rotate_left; simp only [go_sem])
    | (refine E.loopR (ι := Nat) 2 rfl (fun i => [(.s 8, .v (.c (.v (vi i))))]) [1, 6, 7, 24, 25, 26, 27, 28, 29] [] [] (fun i => (m.confs).length - i) (fun i => i ≤ (m.confs).length ∧ (confsGo i (m.confs.drop i) && inR m.act 0 m.confs.length) = isML m) mix (by kernel_rfl) 0 ?_ ?_ (fun i ⟨hi, hR⟩ => ?_); all_goals (try simp (maxSteps := 900000) only [go_sem]); all_goals (try dsimp only at hi hR))
    | (refine E.NEXT.use [] (i + 1) ?_ ?_ ?_; rotate_left 2; focus (simp (maxSteps := 900000) only [go_sem]; (repeat' (first | with_reducible rfl | exact E.RK.mk (by kernel_rfl) | apply And.intro | (push_cast; with_reducible rfl) | (refine E.int_c ?_; omega) | (simp only [go_sem]; done) | (rw [List.map_append]; rfl) | (simp; done) | (simp only [*]; done) | fail)); done))
    | apply And.intro
    | omega
    | (exact (hm _ (E.at_mem (by omega))).1; done)
    | (exact (hm _ (E.at_mem (by omega))).2; done)
    | (rw [drop_at (l := m.confs) (i := i) (by omega)] at hR; rw [← hR]; simp [confsGo, *]; done)
    | (rw [E.drop_end (l := m.confs) (i := i) (by omega)] at hR; rw [← hR]; simp [confsGo]; done)
    | (rfl; done)
    | fail)
theorem isLease_i (l : Lse) : Fn Go.Proofs.Tryz.prog 134 [.a (eLse l)] [.a [.d, .d, .d]] [.c (.v (.bool (isLease l)))] := by
  refine E.Fn.ev (n := 21) mdG false mix Go.Proofs.Tryz.func134 rfl (by simp [Go.Proofs.Tryz.f134]) Go.Proofs.Tryz.ntmps134 (by simp) (by kernel_rfl) (rs := [.tmp 2]) (tys := [4]) rfl rfl (by simp [finOK, A.ts, OWN, ownE, ownT]) (by simp [resOK, A.ts, OWN, ownE, ownT, DE]) ?_
  simp only [go_sem]
  repeat' (first
    | simp only [IJS]
    | (refine E.CALL.use (in_i _ _ _) ?_ <;> (try simp only [go_sem]))
    | (refine E.GB.use (fun h => ?_) (fun h => ?_) <;> (simp only [go_sem, h]) <;> (try simp only [HFS] at h))
    | apply And.intro
    | omega
    | (have q := isLease_no h; subst q; simp [isLease]; done)
    | (have := isLease_ne (by assumption); simp_all [isLease]; done)
    | fail)
theorem any_not {α : Type} (p : α → Bool) : ∀ l : List α, (!(l.any fun x => !p x)) = l.all p
  | [] => rfl
  | x :: l => by simp [← any_not p l]
theorem notPlc_c (p : Plc) : Fn Go.Proofs.Tryz.prog 202 [.a (ePlc p)] [.a [.d, .d, .d]] [.c (.v (.bool (!okPlc p)))] := by
  refine E.Fn.ev (n := 19) mdG false mix Go.Proofs.Tryz.func202 rfl (by simp [Go.Proofs.Tryz.f202]) Go.Proofs.Tryz.ntmps202 (by simp) (by kernel_rfl) (rs := [.tmp 2]) (tys := [4]) rfl rfl (by simp [finOK, A.ts, OWN, ownE, ownT]) (by simp [resOK, A.ts, OWN, ownE, ownT, DE]) ?_
  simp only [go_sem]
  repeat' (first
    | simp only [IJS]
    | (refine E.CALL.use (in_i _ _ _) ?_ <;> (try simp only [go_sem]))
    | (refine E.GB.use (fun h => ?_) (fun h => ?_) <;> (simp only [go_sem, h]) <;> (try simp only [HFS] at h))
    | apply And.intro
    | omega
    | (simp [okPlc, *]; done)
    | fail)
theorem arePlc_i (l : List Plc) (hl : l.length ≤ 1048576) : Fn Go.Proofs.Tryz.prog 135 [.c (.s false 3 (l.map ePlc))] [.c .d] [.c (.v (.bool (arePlaces l)))] := by
  refine E.Fn.ev (n := 11) mdG false mix Go.Proofs.Tryz.func135 rfl (by simp [Go.Proofs.Tryz.f135]) Go.Proofs.Tryz.ntmps135 (by simp) (by kernel_rfl) (rs := [.tmp 2]) (tys := [4]) rfl rfl (by simp [finOK, A.ts, OWN, ownE, ownT]) (by simp [resOK, A.ts, OWN, ownE, ownT, DE]) ?_
  simp only [go_sem]
  repeat' (first
    | simp only [IJS]
    | (refine E.CALL.use (anyF_P0 l (fun p => !okPlc p) 202 hl (fun x _ => notPlc_c x)) ?_ <;> (try simp only [go_sem]))
    | (refine E.GB.use (fun h => ?_) (fun h => ?_) <;> (simp only [go_sem, h]) <;> (try simp only [HFS] at h))
    | (rw [any_not okPlc l, arePlaces, beq_iff_eq.2 h, Bool.true_and]; rfl; done)
    | (simp_all [arePlaces]; done)
    | fail)
theorem confAt_i (m : MLog) (e : Int) (hml : m.confs.length ≤ 1048576) (hm : ∀ c ∈ m.confs, c.reps.length ≤ 1048576 ∧ c.wits.length ≤ 1048576) : Fn Go.Proofs.Tryz.prog 131 [.a (eMLog false m), .c (.v (vi e))] [.a [.d, .d], .c .d] [.a (eConf true ((confAt m e).1)), .c (.v (.bool ((confAt m e).2)))] := by
  refine E.Fn.ev (n := 25) mdG false mix Go.Proofs.Tryz.func131 rfl (by simp [Go.Proofs.Tryz.f131]) Go.Proofs.Tryz.ntmps131 (by simp) (by kernel_rfl) (rs := [.cell 4 60, .tmp 5]) (tys := [60, 4]) rfl rfl (by simp [finOK, A.ts, OWN, ownE, ownT]) (by simp [resOK, A.ts, OWN, ownE, ownT, DE]) ?_
  simp only [go_sem]
  repeat' (first
    | simp only [IJS]
    | (refine E.CALL.use (isML_i _ ?_ ?_) ?_ <;> (try simp only [go_sem]))
    | (refine E.CALL.use (in_i _ _ _) ?_ <;> (try simp only [go_sem]))
    | (refine E.CALL.use (copyC_i _ ?_ ?_) ?_ <;> (try simp only [go_sem]))
    | (refine E.GB.use (fun h => ?_) (fun h => ?_) <;> (simp only [go_sem, h]) <;> (try simp only [HFS] at h))
    | (refine E.IX_map ?_ (fun hx => ?_); rotate_left; simp only [go_sem])
    | apply And.intro
    | omega
    | refine congrArg (List.map _) ?_
    | (have q := inR_of (x := e) (by assumption); omega; done)
    | (have q := inR_of (x := e) (by assumption); exact (hm _ (E.at_mem (by omega))).1; done)
    | (have q := inR_of (x := e) (by assumption); exact (hm _ (E.at_mem (by omega))).2; done)
    | (simp [confAt, noConf, *]; done)
    | fail)
theorem lastAct_i (m : MLog) (hml : m.confs.length ≤ 1048576) (hm : ∀ c ∈ m.confs, c.reps.length ≤ 1048576 ∧ c.wits.length ≤ 1048576) : Fn Go.Proofs.Tryz.prog 101 [.a (eMLog false m)] [.a [.d, .d]] [.a (eConf true ((lastAct m).1)), .c (.v (.bool ((lastAct m).2)))] := by
  refine E.Fn.ev (n := 10) mdG false mix Go.Proofs.Tryz.func101 rfl (by simp [Go.Proofs.Tryz.f101]) Go.Proofs.Tryz.ntmps101 (by simp) (by kernel_rfl) (rs := [.cell 2 60, .tmp 3]) (tys := [60, 4]) rfl rfl (by simp [finOK, A.ts, OWN, ownE, ownT]) (by simp [resOK, A.ts, OWN, ownE, ownT, DE]) ?_
  simp only [go_sem]
  repeat' (first
    | simp only [IJS]
    | (refine E.CALL.use (confAt_i _ _ ?_ ?_) ?_ <;> (try simp only [go_sem]))
    | apply And.intro
    | omega
    | refine congrArg (List.map _) ?_
    | (simp [lastAct]; done)
    | fail)
theorem lastChosen_i (m : MLog) (hml : m.confs.length ≤ 1048576) (hm : ∀ c ∈ m.confs, c.reps.length ≤ 1048576 ∧ c.wits.length ≤ 1048576) : Fn Go.Proofs.Tryz.prog 45 [.a (eMLog false m)] [.a [.d, .d]] [.a (eConf true ((lastChosen m).1)), .c (.v (.bool ((lastChosen m).2)))] := by
  refine E.Fn.ev (n := 11) mdG false mix Go.Proofs.Tryz.func45 rfl (by simp [Go.Proofs.Tryz.f45]) Go.Proofs.Tryz.ntmps45 (by simp) (by kernel_rfl) (rs := [.cell 2 60, .tmp 3]) (tys := [60, 4]) rfl rfl (by simp [finOK, A.ts, OWN, ownE, ownT]) (by simp [resOK, A.ts, OWN, ownE, ownT, DE]) ?_
  simp only [go_sem]
  repeat' (first
    | simp only [IJS]
    | (refine E.CALL.use (confAt_i _ _ ?_ ?_) ?_ <;> (try simp only [go_sem]))
    | apply And.intro
    | omega
    | refine congrArg (List.map _) ?_
    | (simp [lastChosen]; done)
    | fail)
theorem safe_i (l : Lse) : Fn Go.Proofs.Tryz.prog 85 [.a (eLse l)] [.a [.d, .d, .d]] [.c (.v (vi (safeTime l)))] := by
  refine E.Fn.ev (n := 14) mdG false mix Go.Proofs.Tryz.func85 rfl (by simp [Go.Proofs.Tryz.f85]) Go.Proofs.Tryz.ntmps85 (by simp) (by kernel_rfl) (rs := [.tmp 2]) (tys := [3]) rfl rfl (by simp [finOK, A.ts, OWN, ownE, ownT]) (by simp [resOK, A.ts, OWN, ownE, ownT, DE]) ?_
  simp only [go_sem]
  repeat' (first
    | simp only [IJS]
    | (refine E.CALL.use (isLease_i _) ?_ <;> (try simp only [go_sem]))
    | (refine E.GB.use (fun h => ?_) (fun h => ?_) <;> (simp only [go_sem, h]) <;> (try simp only [HFS] at h))
    | apply And.intro
    | omega
    | (have q := isLease_no h; subst q; simp [safeTime]; done)
    | (have q := isLease_til (by assumption); omega; done)
    | (have q := isLease_til (by assumption); have q1 : l ≠ noLse := (fun e => by simp_all [noLse]); simp_all [safeTime]; done)
    | (simp_all [safeTime]; done)
    | fail)
theorem over_i (l : Lse) (now : Int) : Fn Go.Proofs.Tryz.prog 49 [.a (eLse l), .c (.v (vi now))] [.a [.d, .d, .d], .c .d] [.c (.v (.bool (leaseOver l now)))] := by
  refine E.Fn.ev (n := 17) mdG false mix Go.Proofs.Tryz.func49 rfl (by simp [Go.Proofs.Tryz.f49]) Go.Proofs.Tryz.ntmps49 (by simp) (by kernel_rfl) (rs := [.tmp 4]) (tys := [4]) rfl rfl (by simp [finOK, A.ts, OWN, ownE, ownT]) (by simp [resOK, A.ts, OWN, ownE, ownT, DE]) ?_
  simp only [go_sem]
  repeat' (first
    | simp only [IJS]
    | (refine E.CALL.use (isLease_i _) ?_ <;> (try simp only [go_sem]))
    | (refine E.CALL.use (in_i _ _ _) ?_ <;> (try simp only [go_sem]))
    | (refine E.CALL.use (safe_i _) ?_ <;> (try simp only [go_sem]))
    | (refine E.GB.use (fun h => ?_) (fun h => ?_) <;> (simp only [go_sem, h]) <;> (try simp only [HFS] at h))
    | apply And.intro
    | omega
    | (simp_all [leaseOver]; done)
    | fail)
theorem grant_i (l : Lse) (epoch : Int) (holder : Int) (now : Int) (term : Int) : Fn Go.Proofs.Tryz.prog 182 [.a (eLse l), .c (.v (vi epoch)), .c (.v (vi holder)), .c (.v (vi now)), .c (.v (vi term))] [.a [.d, .d, .d], .c .d, .c .d, .c .d, .c .d] [.a (eLse ((grant l epoch holder now term).1)), .c (.v (.bool ((grant l epoch holder now term).2)))] := by
  refine E.Fn.ev (n := 70) mdG false mix Go.Proofs.Tryz.func182 rfl (by simp [Go.Proofs.Tryz.f182]) Go.Proofs.Tryz.ntmps182 (by simp) (by kernel_rfl) (rs := [.cell 10 37, .tmp 11]) (tys := [37, 4]) rfl rfl (by simp [finOK, A.ts, OWN, ownE, ownT]) (by simp [resOK, A.ts, OWN, ownE, ownT, DE]) ?_
  simp only [go_sem]
  repeat' (first
    | simp only [IJS]
    | (refine E.CALL.use (isLease_i _) ?_ <;> (try simp only [go_sem]))
    | (refine E.CALL.use (in_i _ _ _) ?_ <;> (try simp only [go_sem]))
    | (refine E.CALL.use (over_i _ _) ?_ <;> (try simp only [go_sem]))
    | (refine E.GB.use (fun h => ?_) (fun h => ?_) <;> (simp only [go_sem, h]) <;> (try simp only [HFS] at h))
    | apply And.intro
    | omega
    | (have q1 := inR_of (x := now) (by assumption); have q2 := inR_of (x := term) (by assumption); omega; done)
    | (simp_all [grant]; done)
    | fail)
theorem propose_i (m : MLog) (c : Conf) (hml : m.confs.length ≤ 1048576) (hm : ∀ c ∈ m.confs, c.reps.length ≤ 1048576 ∧ c.wits.length ≤ 1048576) (h1 : c.reps.length ≤ 1048576) (h2 : c.wits.length ≤ 1048576) : Fn Go.Proofs.Tryz.prog 180 [.a (eMLog false m), .a (eConf false c)] [.a [.d, .d], .a [.d, .d, .d, .d]] [.a (eMLog true ((proposeC m c).1)), .c (.v (.bool ((proposeC m c).2)))] := by
  refine E.Fn.ev (n := 35) mdG false mix Go.Proofs.Tryz.func180 rfl (by simp [Go.Proofs.Tryz.f180]) Go.Proofs.Tryz.ntmps180 (by simp) (by kernel_rfl) (rs := [.cell 4 36, .tmp 5]) (tys := [36, 4]) rfl rfl (by simp [finOK, A.ts, OWN, ownE, ownT]) (by simp [resOK, A.ts, OWN, ownE, ownT, DE]) ?_
  simp only [go_sem]
  repeat' (first
    | simp only [IJS]
    | (refine E.CALL.use (copyM_i _ ?_ ?_) ?_ <;> (try simp only [go_sem]))
    | (refine E.CALL.use (isML_i _ ?_ ?_) ?_ <;> (try simp only [go_sem]))
    | (refine E.CALL.use (validConf_i _ ?_ ?_) ?_ <;> (try simp only [go_sem]))
    | (refine E.CALL.use (copyC_i _ ?_ ?_) ?_ <;> (try simp only [go_sem]))
    | (refine E.GB.use (fun h => ?_) (fun h => ?_) <;> (simp only [go_sem, h]) <;> (try simp only [HFS] at h))
    | exact E.INDEP.mk2 (by kernel_rfl)
    | apply And.intro
    | omega
    | refine congrArg (List.map _) ?_
    | (simp [proposeC, *]; done)
    | (simp [proposeC, eConf_eq, *]; done)
    | fail)
theorem activate_i (m : MLog) (e : Int) (hml : m.confs.length ≤ 1048576) (hm : ∀ c ∈ m.confs, c.reps.length ≤ 1048576 ∧ c.wits.length ≤ 1048576) : Fn Go.Proofs.Tryz.prog 59 [.a (eMLog false m), .c (.v (vi e))] [.a [.d, .d], .c .d] [.a (eMLog true ((activateC m e).1)), .c (.v (.bool ((activateC m e).2)))] := by
  refine E.Fn.ev (n := 29) mdG false mix Go.Proofs.Tryz.func59 rfl (by simp [Go.Proofs.Tryz.f59]) Go.Proofs.Tryz.ntmps59 (by simp) (by kernel_rfl) (rs := [.cell 4 36, .tmp 5]) (tys := [36, 4]) rfl rfl (by simp [finOK, A.ts, OWN, ownE, ownT]) (by simp [resOK, A.ts, OWN, ownE, ownT, DE]) ?_
  simp only [go_sem]
  repeat' (first
    | simp only [IJS]
    | (refine E.CALL.use (copyM_i _ ?_ ?_) ?_ <;> (try simp only [go_sem]))
    | (refine E.CALL.use (isML_i _ ?_ ?_) ?_ <;> (try simp only [go_sem]))
    | (refine E.GB.use (fun h => ?_) (fun h => ?_) <;> (simp only [go_sem, h]) <;> (try simp only [HFS] at h))
    | apply And.intro
    | omega
    | refine congrArg (List.map _) ?_
    | (have h9 : decide (m.act < e) = false := (by simp; omega); simp [activateC, h9]; done)
    | (simp_all [activateC]; done)
    | fail)
end
section
attribute [local go_sem] mdG_eq mdM toNat_pred setI List.length_set eLI_eq eLE_eq
theorem growI_c  (n : Int) (h0 : 0 ≤ n) (h1 : n ≤ 1048576) : Fn Go.Proofs.Tryz.prog 237 [.c (.v (.slice none 0 0)), .c (.v (vi n))] [.c .d, .c .d] [.c (.s true 1 ((([] : List Int)).map eInt))] := by
  refine E.Fn.evCN (n := 27) mdG false mix Go.Proofs.Tryz.func237 rfl (by simp [Go.Proofs.Tryz.f237]) Go.Proofs.Tryz.ntmps237 (by simp) (by kernel_rfl) (t := 4) (ty := 23) (sz := 1) (r := (([] : List Int)).map eInt) (al := [.c (.v (vi n))]) (fin := [.c .d]) rfl rfl ki23 rfl (by simp [OWN, ownEs]) ?_
  simp only [go_sem]
  repeat' (first
    | simp only [IJS]
    | (refine E.GB.use (fun h => ?_) (fun h => ?_) <;> (try (exfalso; simp only [HFS] at h; omega)) <;> (simp only [go_sem, h]) <;> (try simp only [HFS] at h))
    | apply And.intro
    | omega
    | fail)
theorem concatI_c  (ls : List (List Int)) (l0 : List Int) (he : ls.flatten = l0) (hls : ls.length ≤ 1048576) (hl : ls.flatten.length ≤ 1048576) : Fn Go.Proofs.Tryz.prog 211 [.c (.s false 1 (ls.map eLI))] [.c .d] [.c (.s true 1 ((l0).map eInt))] := by
  refine E.Fn.ev (n := 36) mdG false mix Go.Proofs.Tryz.func211 rfl (by simp [Go.Proofs.Tryz.f211]) Go.Proofs.Tryz.ntmps211 (by simp) (by kernel_rfl) (rs := [.tmp 2]) (tys := [23]) rfl rfl (by simp [finOK, A.ts, OWN, ownE, ownT]) (by simp [resOK, A.ts, OWN, ownE, ownT, DE]) ?_
  simp only [go_sem]
  repeat' (first
    | simp only [IJS]
    | (refine E.CALL.use (growI_c _ ?_ ?_) ?_ <;> (try simp only [go_sem]))
    | (refine E.GB.use (fun h => ?_) (fun h => ?_) <;> (try (exfalso; simp only [HFS] at h; omega)) <;> (simp only [go_sem, h]) <;> (try simp only [HFS] at h))
    | exact E.RK.mk (by kernel_rfl)
    | (refine E.IX_map ?_ (fun hx => ?_); rotate_left; simp only [go_sem])
    | (refine E.loopR (ι := Nat) 3 rfl (fun i => [(.s 11, .v (.c (.v (vi i)))), (.s 3, .v (.c (.v (vi (ls.take i).flatten.length))))]) [0, 2, 6, 8, 9, 10, 23, 24, 25, 26, 27, 28, 29, 30, 31, 32, 33, 34, 35] [] [] (fun i => ls.length - i) (fun i => i ≤ ls.length ∧ 0 = 0) mix (by kernel_rfl) 0 ?_ ?_ (fun i ⟨hi, hz⟩ => ?_); all_goals (try simp (maxSteps := 900000) only [go_sem]); all_goals (try dsimp only at hi hz))
    | (refine E.NEXT.use [] (i + 1) ?_ ?_ ?_; rotate_left 2; focus (simp (maxSteps := 900000) only [go_sem]; (repeat' (first | with_reducible rfl | exact E.RK.mk (by kernel_rfl) | apply And.intro | (push_cast; with_reducible rfl) | (refine E.int_c ?_; omega) | (simp only [go_sem]; done) | (rw [List.map_append]; rfl) | (simp; done) | (simp only [*]; done) | (refine E.int_c ?_; rw [flat_take (by omega)]; simp; done) | fail)); done))
    | (refine E.loopR (ι := Nat × List Int) 11 rfl (fun ⟨i, out⟩ => [(.s 27, .v (.c (.v (vi i)))), (.s 6, .v (.c (.r (24, 0) 0 [] 0 (out).length))), (.k (24, 0), .e ⟨0, 1, (out).map eInt⟩)]) [2, 25, 26, 35] [(24, 0)] [] (fun ⟨i, out⟩ => ls.length - i) (fun ⟨i, out⟩ => i ≤ ls.length ∧ out = (ls.take i).flatten) mix (by kernel_rfl) (0, []) ?_ ?_ (fun ⟨i, out⟩ ⟨hi, ho⟩ => ?_); all_goals (try simp (maxSteps := 900000) only [go_sem]); all_goals (try dsimp only at hi ho))
    | (refine E.NEXT.use [((24, 0), (33, 0))] (i + 1, out ++ at' ls i) ?_ ?_ ?_; rotate_left 2; focus (simp (maxSteps := 900000) only [go_sem]; (repeat' (first | with_reducible rfl | exact E.RK.mk (by kernel_rfl) | apply And.intro | (push_cast; with_reducible rfl) | (refine E.int_c ?_; omega) | (simp only [go_sem]; done) | (rw [List.map_append]; rfl) | (simp; done) | (simp only [*]; done) | (refine E.int_c ?_; rw [flat_take (by omega)]; simp; done) | fail)); done))
    | apply And.intro
    | omega
    | refine congrArg (List.map _) ?_
    | (subst ho; rw [List.take_of_length_le (by omega), he]; done)
    | (have := flat_at (ls := ls) (i := i) (by omega); omega; done)
    | (have := flat_at (ls := ls) (i := i) (by omega); rw [← ho] at this; omega; done)
    | (rw [List.take_of_length_le (by omega)]; omega; done)
    | (subst ho; (try dsimp only); rw [flat_take (by omega)]; done)
    | (simp; done)
    | fail)
theorem growE_c  (n : Int) (h0 : 0 ≤ n) (h1 : n ≤ 1048576) : Fn Go.Proofs.Tryz.prog 241 [.c (.v (.slice none 0 0)), .c (.v (vi n))] [.c .d, .c .d] [.c (.s true 7 ((([] : List LEnt)).map eLEnt))] := by
  refine E.Fn.evCN (n := 27) mdG false mix Go.Proofs.Tryz.func241 rfl (by simp [Go.Proofs.Tryz.f241]) Go.Proofs.Tryz.ntmps241 (by simp) (by kernel_rfl) (t := 4) (ty := 64) (sz := 7) (r := (([] : List LEnt)).map eLEnt) (al := [.c (.v (vi n))]) (fin := [.c .d]) rfl rfl ki64 rfl (by simp [OWN, ownEs]) ?_
  simp only [go_sem]
  repeat' (first
    | simp only [IJS]
    | (refine E.GB.use (fun h => ?_) (fun h => ?_) <;> (try (exfalso; simp only [HFS] at h; omega)) <;> (simp only [go_sem, h]) <;> (try simp only [HFS] at h))
    | apply And.intro
    | omega
    | fail)
theorem concatE_c  (ls : List (List LEnt)) (l0 : List LEnt) (he : ls.flatten = l0) (hls : ls.length ≤ 1048576) (hl : ls.flatten.length ≤ 1048576) : Fn Go.Proofs.Tryz.prog 232 [.c (.s false 1 (ls.map eLE))] [.c .d] [.c (.s true 7 ((l0).map eLEnt))] := by
  refine E.Fn.ev (n := 36) mdG false mix Go.Proofs.Tryz.func232 rfl (by simp [Go.Proofs.Tryz.f232]) Go.Proofs.Tryz.ntmps232 (by simp) (by kernel_rfl) (rs := [.tmp 2]) (tys := [64]) rfl rfl (by simp [finOK, A.ts, OWN, ownE, ownT]) (by simp [resOK, A.ts, OWN, ownE, ownT, DE]) ?_
  simp only [go_sem]
  repeat' (first
    | simp only [IJS]
    | (refine E.CALL.use (growE_c _ ?_ ?_) ?_ <;> (try simp only [go_sem]))
    | (refine E.GB.use (fun h => ?_) (fun h => ?_) <;> (try (exfalso; simp only [HFS] at h; omega)) <;> (simp only [go_sem, h]) <;> (try simp only [HFS] at h))
    | exact E.RK.mk (by kernel_rfl)
    | (refine E.IX_map ?_ (fun hx => ?_); rotate_left; simp only [go_sem])
    | (refine E.loopR (ι := Nat) 3 rfl (fun i => [(.s 11, .v (.c (.v (vi i)))), (.s 3, .v (.c (.v (vi (ls.take i).flatten.length))))]) [0, 2, 6, 8, 9, 10, 23, 24, 25, 26, 27, 28, 29, 30, 31, 32, 33, 34, 35] [] [] (fun i => ls.length - i) (fun i => i ≤ ls.length ∧ 0 = 0) mix (by kernel_rfl) 0 ?_ ?_ (fun i ⟨hi, hz⟩ => ?_); all_goals (try simp (maxSteps := 900000) only [go_sem]); all_goals (try dsimp only at hi hz))
    | (refine E.NEXT.use [] (i + 1) ?_ ?_ ?_; rotate_left 2; focus (simp (maxSteps := 900000) only [go_sem]; (repeat' (first | with_reducible rfl | exact E.RK.mk (by kernel_rfl) | apply And.intro | (push_cast; with_reducible rfl) | (refine E.int_c ?_; omega) | (simp only [go_sem]; done) | (rw [List.map_append]; rfl) | (simp; done) | (simp only [*]; done) | (refine E.int_c ?_; rw [flat_take (by omega)]; simp; done) | fail)); done))
    | (refine E.loopR (ι := Nat × List LEnt) 11 rfl (fun ⟨i, out⟩ => [(.s 27, .v (.c (.v (vi i)))), (.s 6, .v (.c (.r (24, 0) 0 [] 0 (out).length))), (.k (24, 0), .e ⟨0, 7, (out).map eLEnt⟩)]) [2, 25, 26, 35] [(24, 0)] [] (fun ⟨i, out⟩ => ls.length - i) (fun ⟨i, out⟩ => i ≤ ls.length ∧ out = (ls.take i).flatten) mix (by kernel_rfl) (0, []) ?_ ?_ (fun ⟨i, out⟩ ⟨hi, ho⟩ => ?_); all_goals (try simp (maxSteps := 900000) only [go_sem]); all_goals (try dsimp only at hi ho))
    | (refine E.NEXT.use [((24, 0), (33, 0))] (i + 1, out ++ at' ls i) ?_ ?_ ?_; rotate_left 2; focus (simp (maxSteps := 900000) only [go_sem]; (repeat' (first | with_reducible rfl | exact E.RK.mk (by kernel_rfl) | apply And.intro | (push_cast; with_reducible rfl) | (refine E.int_c ?_; omega) | (simp only [go_sem]; done) | (rw [List.map_append]; rfl) | (simp; done) | (simp only [*]; done) | (refine E.int_c ?_; rw [flat_take (by omega)]; simp; done) | fail)); done))
    | apply And.intro
    | omega
    | refine congrArg (List.map _) ?_
    | (subst ho; rw [List.take_of_length_le (by omega), he]; done)
    | (have := flat_at (ls := ls) (i := i) (by omega); omega; done)
    | (have := flat_at (ls := ls) (i := i) (by omega); rw [← ho] at this; omega; done)
    | (rw [List.take_of_length_le (by omega)]; omega; done)
    | (subst ho; (try dsimp only); rw [flat_take (by omega)]; done)
    | (simp; done)
    | fail)
end
section
attribute [local go_sem] mdG_eq mdM toNat_pred setI List.length_set eLI_eq eLE_eq
theorem unite_i (a : List Int) (b : List Int) (hab : a.length + b.length ≤ 12) : Fn Go.Proofs.Tryz.prog 147 [.c (.s false 1 (a.map eInt)), .c (.s false 1 (b.map eInt))] [.c .d, .c .d] [.c (.s true 1 ((unite a b).map eInt))] := by
  refine E.Fn.ev (n := 10) mdG false mix Go.Proofs.Tryz.func147 rfl (by simp [Go.Proofs.Tryz.f147]) Go.Proofs.Tryz.ntmps147 (by simp) (by kernel_rfl) (rs := [.tmp 4]) (tys := [23]) rfl rfl (by simp [finOK, A.ts, OWN, ownE, ownT]) (by simp [resOK, A.ts, OWN, ownE, ownT, DE]) ?_
  simp only [go_sem]
  repeat' (first
    | simp only [IJS]
    | (refine E.CALL.use (concatI_c [a, b] (a ++ b) (by simp) ?_ ?_) ?_ <;> (try simp only [go_sem]))
    | (refine E.CALL.use (asc_c _ ?_) ?_ <;> (try simp only [go_sem]))
    | apply And.intro
    | omega
    | refine congrArg (List.map _) ?_
    | (simp; omega; done)
    | (rw [unite_eq]; done)
    | fail)
theorem members_i (c : Conf) (h1 : c.reps.length ≤ 1048576) (h2 : c.wits.length ≤ 1048576) : Fn Go.Proofs.Tryz.prog 52 [.a (eConf false c)] [.a [.d, .d, .d, .d]] [.c (.s true 1 ((membersOf c).map eInt))] := by
  refine E.Fn.ev (n := 12) mdG false mix Go.Proofs.Tryz.func52 rfl (by simp [Go.Proofs.Tryz.f52]) Go.Proofs.Tryz.ntmps52 (by simp) (by kernel_rfl) (rs := [.tmp 2]) (tys := [23]) rfl rfl (by simp [finOK, A.ts, OWN, ownE, ownT]) (by simp [resOK, A.ts, OWN, ownE, ownT, DE]) ?_
  simp only [go_sem]
  repeat' (first
    | simp only [IJS]
    | (refine E.CALL.use (validConf_i _ ?_ ?_) ?_ <;> (try simp only [go_sem]))
    | (refine E.CALL.use (unite_i _ _ ?_) ?_ <;> (try simp only [go_sem]))
    | (refine E.GB.use (fun h => ?_) (fun h => ?_) <;> (simp only [go_sem, h]) <;> (try simp only [HFS] at h))
    | apply And.intro
    | omega
    | refine congrArg (List.map _) ?_
    | (simp [membersOf, *]; done)
    | (have q := validConf_of (by assumption); have := areServers_len q.2.2.1; have := areServers_len q.2.2.2.1; omega; done)
    | fail)
end
section
attribute [local go_sem] mdM toNat_pred
theorem copyU_s (c : Clu) (hs : ∀ s ∈ c.srvs, (s.conf.reps.length ≤ 1048576 ∧ s.conf.wits.length ≤ 1048576) ∧ s.log.length ≤ 1048576 ∧ s.learned.length ≤ 1048576) (hsl : c.srvs.length ≤ 1048576) (hsd : c.sides.length ≤ 1048576) (hml : c.mast.confs.length ≤ 1048576) (hm : ∀ x ∈ c.mast.confs, x.reps.length ≤ 1048576 ∧ x.wits.length ≤ 1048576) (hpl : c.plcs.length ≤ 1048576) : Fn Go.Proofs.Tryz.prog 30 [.a (eClu false c)] [.a [.d, .d, .d, .d, .d, .d, .d, .d, .d, .d]] [.a (eClu true (c))] := by
  refine E.Fn.ev (n := 42) mdM false mix Go.Proofs.Tryz.func30 rfl (by simp [Go.Proofs.Tryz.f30]) Go.Proofs.Tryz.ntmps30 (by simp) (by kernel_rfl) (rs := [.cell 2 40]) (tys := [40]) rfl rfl (by simp [finOK, A.ts, OWN, ownE, ownT]) (by simp [resOK, A.ts, OWN, ownE, ownT, DE]) ?_
  simp only [go_sem]
  repeat' (first
    | simp only [IJS]
    | (refine E.CALL.use (copyS_s _ ?_ ?_ ?_ ?_) ?_ <;> (try simp only [go_sem]))
    | (refine E.CALL.use (copyM_s _ ?_ ?_) ?_ <;> (try simp only [go_sem]))
    | (refine E.GB.use (fun h => ?_) (fun h => ?_) <;> (simp only [go_sem, h]) <;> (try simp only [HFS] at h))
    | exact E.RK.mk (by kernel_rfl)
    | (refine E.IX_map ?_ (fun hx => ?_); rotate_left; simp only [go_sem])
    | (refine E.loopR (ι := Nat × Nat) 4 rfl (fun ⟨i, v⟩ => [(.s 4, .v (.c (.v (vi i)))), (.k (3, 0), .e ⟨v, 10, [[.v (vi c.now), .s true 12 ((c.srvs.take i).map (eSrv true)), .s false 1 (c.sides.map eInt), .s false 4 (c.mast.confs.map (eConf false)), .v (vi c.mast.act), .v (vi c.mup), .v (vi c.lse.epoch), .v (vi c.lse.holder), .v (vi c.lse.til), .s false 3 (c.plcs.map ePlc)]]⟩)]) [1, 2, 3, 27, 28, 29, 30, 31, 32, 33, 34, 35, 36, 37, 38, 39, 40, 41] [(3, 0)] [] (fun ⟨i, v⟩ => c.srvs.length - i) (fun ⟨i, v⟩ => i ≤ c.srvs.length ∧ v = v) mix (by kernel_rfl) (0, 2) ?_ ?_ (fun ⟨i, v⟩ ⟨hi, hv⟩ => ?_); all_goals (try simp (maxSteps := 900000) only [go_sem]); all_goals (try dsimp only at hi hv))
    | (refine E.NEXT.use [] (i + 1, v + 1) ?_ ?_ ?_; rotate_left 2; focus (simp (maxSteps := 900000) only [go_sem]; (repeat' (first | with_reducible rfl | exact E.RK.mk (by kernel_rfl) | apply And.intro | (push_cast; with_reducible rfl) | (refine E.int_c ?_; omega) | (simp only [go_sem]; done) | (rw [List.map_append]; rfl) | (simp; done) | (simp only [*]; done) | (rw [E.take_at, List.map_append] <;> first | rfl | omega; done) | fail)); done))
    | apply And.intro
    | omega
    | (simp only [List.length_take, List.length_drop, List.length_append, List.length_set, List.length_cons, List.length_nil]; omega)
    | refine congrArg (List.map _) ?_
    | (exact (hs _ (E.at_mem (by omega))).1.1; done)
    | (exact (hs _ (E.at_mem (by omega))).1.2; done)
    | (exact (hs _ (E.at_mem (by omega))).2.1; done)
    | (exact (hs _ (E.at_mem (by omega))).2.2; done)
    | (rw [List.take_of_length_le (by omega)]; done)
    | fail)
theorem primNow_s (s : Srv) (id : Int) (h1 : s.conf.reps.length ≤ 1048576) (h2 : s.conf.wits.length ≤ 1048576) (h3 : s.log.length ≤ 1048576) (h4 : s.learned.length ≤ 1048576) : Fn Go.Proofs.Tryz.prog 168 [.a (eSrv false s), .c (.v (vi id))] [.a [.d, .d, .d, .d, .d, .d, .d, .d, .d, .d, .d, .d], .c .d] [.c (.v (.bool (primNow s id)))] := by
  refine E.Fn.ev (n := 27) mdM false mix Go.Proofs.Tryz.func168 rfl (by simp [Go.Proofs.Tryz.f168]) Go.Proofs.Tryz.ntmps168 (by simp) (by kernel_rfl) (rs := [.tmp 4]) (tys := [4]) rfl rfl (by simp [finOK, A.ts, OWN, ownE, ownT]) (by simp [resOK, A.ts, OWN, ownE, ownT, DE]) ?_
  simp only [go_sem]
  repeat' (first
    | simp only [IJS]
    | (refine E.CALL.use (validSrv_s _ _ ?_ ?_ ?_ ?_) ?_ <;> (try simp only [go_sem]))
    | (refine E.CALL.use (role_s _ _ ?_ ?_) ?_ <;> (try simp only [go_sem]))
    | (refine E.GB.use (fun h => ?_) (fun h => ?_) <;> (simp only [go_sem, h]) <;> (try simp only [HFS] at h))
    | apply And.intro
    | omega
    | (simp_all [primNow]; done)
    | fail)
theorem confAt_bd {m : MLog} {e : Int} (hm : ∀ x ∈ m.confs, x.reps.length ≤ 1048576 ∧ x.wits.length ≤ 1048576) : (confAt m e).1.reps.length ≤ 1048576 ∧ (confAt m e).1.wits.length ≤ 1048576 := by
  unfold confAt
  split
  · rename_i h
    simp only [Bool.and_eq_true, inR_iff] at h
    exact hm _ (E.at_mem (by omega))
  · exact ⟨Nat.zero_le _, Nat.zero_le _⟩
theorem validClu_s (c : Clu) (hs : ∀ s ∈ c.srvs, (s.conf.reps.length ≤ 1048576 ∧ s.conf.wits.length ≤ 1048576) ∧ s.log.length ≤ 1048576 ∧ s.learned.length ≤ 1048576) (hsl : c.srvs.length ≤ 1048576) (hsd : c.sides.length ≤ 1048576) (hml : c.mast.confs.length ≤ 1048576) (hm : ∀ x ∈ c.mast.confs, x.reps.length ≤ 1048576 ∧ x.wits.length ≤ 1048576) (hpl : c.plcs.length ≤ 1048576) : Fn Go.Proofs.Tryz.prog 32 [.a (eClu false c)] [.a [.d, .d, .d, .d, .d, .d, .d, .d, .d, .d]] [.c (.v (.bool (validClu c)))] := by
  refine E.Fn.ev (n := 123) mdM false mix Go.Proofs.Tryz.func32 rfl (by simp [Go.Proofs.Tryz.f32]) Go.Proofs.Tryz.ntmps32 (by simp) (by kernel_rfl) (rs := [.tmp 2]) (tys := [4]) rfl rfl (by simp [finOK, A.ts, OWN, ownE, ownT]) (by simp [resOK, A.ts, OWN, ownE, ownT, DE]) ?_
  simp only [go_sem]
  repeat' (first
    | simp only [IJS]
    | (refine E.CALL.use (in_s _ _ _) ?_ <;> (try simp only [go_sem]))
    | (refine E.CALL.use (areSides_s _ ?_) ?_ <;> (try simp only [go_sem]))
    | (refine E.CALL.use (isML_s _ ?_ ?_) ?_ <;> (try simp only [go_sem]))
    | (refine E.CALL.use (isLease_s _) ?_ <;> (try simp only [go_sem]))
    | (refine E.CALL.use (arePlc_s _ ?_) ?_ <;> (try simp only [go_sem]))
    | (refine E.CALL.use (validSrv_s _ _ ?_ ?_ ?_ ?_) ?_ <;> (try simp only [go_sem]))
    | (refine E.CALL.use (lastE_s _ ?_) ?_ <;> (try simp only [go_sem]))
    | (refine E.CALL.use (confAt_s _ _ ?_ ?_) ?_ <;> (try simp only [go_sem]))
    | (refine E.CALL.use (none_s _ ?_ ?_) ?_ <;> (try simp only [go_sem]))
    | (refine E.CALL.use (eqConf_s _ _ ?_ ?_ ?_ ?_) ?_ <;> (try simp only [go_sem]))
    | (refine E.GB.use (fun h => ?_) (fun h => ?_) <;> (simp only [go_sem, h]) <;> (try simp only [HFS] at h))
    | exact E.INDEP.mk2 (by kernel_rfl)
    | exact E.RK.mk (by kernel_rfl)
    | (refine E.IX_map ?_ (fun hx => ?_); rotate_left; simp only [go_sem])
    | (refine E.loopR (ι := Nat) 4 rfl (fun i => [(.s 3, .v (.c (.v (vi i))))]) [1] [] [] (fun i => (c.srvs).length - i) (fun i => i ≤ (c.srvs).length ∧ (inR c.now 0 999 && ((c.srvs.length : Int) == 5) && areSides c.sides && isML c.mast && isLease c.lse && arePlaces c.plcs && inR c.mup 0 3 && decide (c.lse.epoch ≤ c.mast.act) && srvsOK c i (c.srvs.drop i)) = validClu c) mix (by kernel_rfl) 0 ?_ ?_ (fun i ⟨hi, hR⟩ => ?_); all_goals (try simp (maxSteps := 900000) only [go_sem]); all_goals (try dsimp only at hi hR))
    | (refine E.NEXT.use [] (i + 1) ?_ ?_ ?_; rotate_left 2; focus (simp (maxSteps := 900000) only [go_sem]; (repeat' (first | with_reducible rfl | exact E.RK.mk (by kernel_rfl) | apply And.intro | (push_cast; with_reducible rfl) | (refine E.int_c ?_; omega) | (simp only [go_sem]; done) | (rw [List.map_append]; rfl) | (simp; done) | (simp only [*]; done) | fail)); done))
    | apply And.intro
    | omega
    | (exact (hs _ (E.at_mem (by omega))).1.1; done)
    | (exact (hs _ (E.at_mem (by omega))).1.2; done)
    | (exact (hs _ (E.at_mem (by omega))).2.1; done)
    | (exact (hs _ (E.at_mem (by omega))).2.2; done)
    | (exact (confAt_bd hm).1; done)
    | (exact (confAt_bd hm).2; done)
    | (rfl; done)
    | (rw [E.drop_end (l := c.srvs) (i := i) (by omega)] at hR; rw [← hR]; simp_all [srvsOK]; done)
    | (rw [drop_at (l := c.srvs) (i := i) (by omega)] at hR; rw [← hR]; simp_all [srvsOK]; done)
    | (rw [drop_at (l := c.srvs) (i := i) (by omega)] at hR; have h9 : decide ((at' c.srvs i).epoch ≤ c.mast.confs.length) = false := (by simp; omega); rw [← hR]; simp [srvsOK, h9]; done)
    | (rw [drop_at (l := c.srvs) (i := i) (by omega)] at hR; have h9 : decide (lastE (at' c.srvs i).learned ≤ c.mast.act) = false := (by simp; omega); rw [← hR]; simp [srvsOK, h9]; done)
    | (rw [drop_at (l := c.srvs) (i := i) (by omega)] at hR; have h9 : decide ((at' c.srvs i).conf.epoch ≤ c.mast.act) = false := (by simp; omega); rw [← hR]; simp [srvsOK, h9, *]; done)
    | (have h9 : decide (c.lse.epoch ≤ c.mast.act) = false := (by simp; omega); simp [validClu, h9]; done)
    | (simp_all [validClu]; done)
    | fail)
end
section
attribute [local go_sem] mdG_eq mdM toNat_pred setI List.length_set eLI_eq eLE_eq
theorem eqConf_i_B (a : Conf) (b : Conf) (hA : ConfB a) (hB : ConfB b) : Fn Go.Proofs.Tryz.prog 107 [.a (eConf false a), .a (eConf false b)] [.a [.d, .d, .d, .d], .a [.d, .d, .d, .d]] [.c (.v (.bool (decide (a = b))))] := eqConf_i a b hA.r hA.w hB.r hB.w
theorem eqConf_s_B (a : Conf) (b : Conf) (hA : ConfB a) (hB : ConfB b) : Fn Go.Proofs.Tryz.prog 103 [.a (eConf false a), .a (eConf false b)] [.a [.d, .d, .d, .d], .a [.d, .d, .d, .d]] [.c (.v (.bool (decide (a = b))))] := eqConf_s a b hA.r hA.w hB.r hB.w
theorem none_s_B (c : Conf) (hB : ConfB c) : Fn Go.Proofs.Tryz.prog 119 [.a (eConf false c)] [.a [.d, .d, .d, .d]] [.c (.v (.bool (decide (c = noConf))))] := none_s c hB.r hB.w
theorem role_s_B (c : Conf) (id : Int) (hB : ConfB c) : Fn Go.Proofs.Tryz.prog 90 [.a (eConf false c), .c (.v (vi id))] [.a [.d, .d, .d, .d], .c .d] [.c (.v (vi (roleOf c id)))] := role_s c id hB.r hB.w
theorem members_s_B (c : Conf) (hB : ConfB c) : Fn Go.Proofs.Tryz.prog 36 [.a (eConf false c)] [.a [.d, .d, .d, .d]] [.c (.s true 1 ((membersOf c).map eInt))] := members_s c hB.r hB.w
theorem copyC_s_B (c : Conf) (hB : ConfB c) : Fn Go.Proofs.Tryz.prog 127 [.a (eConf false c)] [.a [.d, .d, .d, .d]] [.a (eConf true (c))] := copyC_s c hB.r hB.w
theorem lastAct_s_B (m : MLog) (hM : MLB m) : Fn Go.Proofs.Tryz.prog 99 [.a (eMLog false m)] [.a [.d, .d]] [.a (eConf true ((lastAct m).1)), .c (.v (.bool ((lastAct m).2)))] := lastAct_s m hM.len hM.hm
theorem lastChosen_s_B (m : MLog) (hM : MLB m) : Fn Go.Proofs.Tryz.prog 31 [.a (eMLog false m)] [.a [.d, .d]] [.a (eConf true ((lastChosen m).1)), .c (.v (.bool ((lastChosen m).2)))] := lastChosen_s m hM.len hM.hm
theorem propose_s_B (m : MLog) (c : Conf) (hM : MLB m) (hB : ConfB c) : Fn Go.Proofs.Tryz.prog 166 [.a (eMLog false m), .a (eConf false c)] [.a [.d, .d], .a [.d, .d, .d, .d]] [.a (eMLog true ((proposeC m c).1)), .c (.v (.bool ((proposeC m c).2)))] := propose_s m c hM.len hM.hm hB.r hB.w
theorem activate_s_B (m : MLog) (e : Int) (hM : MLB m) : Fn Go.Proofs.Tryz.prog 39 [.a (eMLog false m), .c (.v (vi e))] [.a [.d, .d], .c .d] [.a (eMLog true ((activateC m e).1)), .c (.v (.bool ((activateC m e).2)))] := activate_s m e hM.len hM.hm
theorem copyS_s_B (s : Srv) (hB : SrvB s) : Fn Go.Proofs.Tryz.prog 110 [.a (eSrv false s)] [.a [.d, .d, .d, .d, .d, .d, .d, .d, .d, .d, .d, .d]] [.a (eSrv true (s))] := copyS_s s hB.conf.r hB.conf.w hB.log hB.learned
theorem copyU_s_B (c : Clu) (hB : CluB c) : Fn Go.Proofs.Tryz.prog 30 [.a (eClu false c)] [.a [.d, .d, .d, .d, .d, .d, .d, .d, .d, .d]] [.a (eClu true (c))] := copyU_s c hB.hs hB.sl hB.sd hB.m.len hB.m.hm hB.pl
theorem primNow_s_B (s : Srv) (id : Int) (hB : SrvB s) : Fn Go.Proofs.Tryz.prog 168 [.a (eSrv false s), .c (.v (vi id))] [.a [.d, .d, .d, .d, .d, .d, .d, .d, .d, .d, .d, .d], .c .d] [.c (.v (.bool (primNow s id)))] := primNow_s s id hB.conf.r hB.conf.w hB.log hB.learned
theorem validClu_s_B (c : Clu) (hB : CluB c) : Fn Go.Proofs.Tryz.prog 32 [.a (eClu false c)] [.a [.d, .d, .d, .d, .d, .d, .d, .d, .d, .d]] [.c (.v (.bool (validClu c)))] := validClu_s c hB.hs hB.sl hB.sd hB.m.len hB.m.hm hB.pl
theorem copyC_i_B (c : Conf) (hB : ConfB c) : Fn Go.Proofs.Tryz.prog 153 [.a (eConf false c)] [.a [.d, .d, .d, .d]] [.a (eConf true (c))] := copyC_i c hB.r hB.w
theorem copyS_i_B (s : Srv) (hB : SrvB s) : Fn Go.Proofs.Tryz.prog 96 [.a (eSrv false s)] [.a [.d, .d, .d, .d, .d, .d, .d, .d, .d, .d, .d, .d]] [.a (eSrv true (s))] := copyS_i s hB.conf.r hB.conf.w hB.log hB.learned
theorem copyU_i_B (c : Clu) (hB : CluB c) : Fn Go.Proofs.Tryz.prog 47 [.a (eClu false c)] [.a [.d, .d, .d, .d, .d, .d, .d, .d, .d, .d]] [.a (eClu true (c))] := copyU_i c hB.hs hB.sl hB.sd hB.m.len hB.m.hm hB.pl
theorem role_i_B (c : Conf) (id : Int) (hB : ConfB c) : Fn Go.Proofs.Tryz.prog 94 [.a (eConf false c), .c (.v (vi id))] [.a [.d, .d, .d, .d], .c .d] [.c (.v (vi (roleOf c id)))] := role_i c id hB.r hB.w
theorem isML_i_B (m : MLog) (hM : MLB m) : Fn Go.Proofs.Tryz.prog 133 [.a (eMLog false m)] [.a [.d, .d]] [.c (.v (.bool (isML m)))] := isML_i m hM.len hM.hm
theorem confAt_i_B (m : MLog) (e : Int) (hM : MLB m) : Fn Go.Proofs.Tryz.prog 131 [.a (eMLog false m), .c (.v (vi e))] [.a [.d, .d], .c .d] [.a (eConf true ((confAt m e).1)), .c (.v (.bool ((confAt m e).2)))] := confAt_i m e hM.len hM.hm
theorem lastAct_i_B (m : MLog) (hM : MLB m) : Fn Go.Proofs.Tryz.prog 101 [.a (eMLog false m)] [.a [.d, .d]] [.a (eConf true ((lastAct m).1)), .c (.v (.bool ((lastAct m).2)))] := lastAct_i m hM.len hM.hm
theorem lastChosen_i_B (m : MLog) (hM : MLB m) : Fn Go.Proofs.Tryz.prog 45 [.a (eMLog false m)] [.a [.d, .d]] [.a (eConf true ((lastChosen m).1)), .c (.v (.bool ((lastChosen m).2)))] := lastChosen_i m hM.len hM.hm
theorem propose_i_B (m : MLog) (c : Conf) (hM : MLB m) (hB : ConfB c) : Fn Go.Proofs.Tryz.prog 180 [.a (eMLog false m), .a (eConf false c)] [.a [.d, .d], .a [.d, .d, .d, .d]] [.a (eMLog true ((proposeC m c).1)), .c (.v (.bool ((proposeC m c).2)))] := propose_i m c hM.len hM.hm hB.r hB.w
theorem activate_i_B (m : MLog) (e : Int) (hM : MLB m) : Fn Go.Proofs.Tryz.prog 59 [.a (eMLog false m), .c (.v (vi e))] [.a [.d, .d], .c .d] [.a (eMLog true ((activateC m e).1)), .c (.v (.bool ((activateC m e).2)))] := activate_i m e hM.len hM.hm
theorem members_i_B (c : Conf) (hB : ConfB c) : Fn Go.Proofs.Tryz.prog 52 [.a (eConf false c)] [.a [.d, .d, .d, .d]] [.c (.s true 1 ((membersOf c).map eInt))] := members_i c hB.r hB.w
end
section
attribute [local go_sem] mdG_eq mdM toNat_pred setI List.length_set eLI_eq eLE_eq
theorem eqE_c (a : List LEnt) (b : List LEnt) (ha : a.length ≤ 1048576) (hb : b.length ≤ 1048576) : Fn Go.Proofs.Tryz.prog 233 [.c (.s false 7 (a.map eLEnt)), .c (.s false 7 (b.map eLEnt))] [.c .d, .c .d] [.c (.v (.bool (decide (a = b))))] := by
  refine E.Fn.ev (n := 26) mdG false mix Go.Proofs.Tryz.func233 rfl (by simp [Go.Proofs.Tryz.f233]) Go.Proofs.Tryz.ntmps233 (by simp) (by kernel_rfl) (rs := [.tmp 4]) (tys := [4]) rfl rfl (by simp [finOK, A.ts, OWN, ownE, ownT]) (by simp [resOK, A.ts, OWN, ownE, ownT, DE]) ?_
  simp only [go_sem]
  repeat' (first
    | simp only [IJS]
    | (refine E.GB.use (fun h => ?_) (fun h => ?_) <;> (simp only [go_sem, h]) <;> (try simp only [HFS] at h))
    | exact E.INDEP.mk2 (by kernel_rfl)
    | exact E.RK.mk (by kernel_rfl)
    | (refine E.IX_map ?_ (fun hx => ?_); rotate_left; simp only [go_sem])
    | (refine E.loopR (ι := Nat) 4 rfl (fun i => [(.s 13, .v (.c (.v (vi i))))]) [0, 1, 12] [] [] (fun i => a.length - i) (fun i => i ≤ a.length ∧ a.length = b.length ∧ decide (a.drop i = b.drop i) = decide (a = b)) mix (by kernel_rfl) 0 ?_ ?_ (fun i ⟨hi, hl, hR⟩ => ?_); all_goals (try simp (maxSteps := 900000) only [go_sem]); all_goals (try dsimp only at hi hl hR))
    | (refine E.NEXT.use [] (i + 1) ?_ ?_ ?_; rotate_left 2; focus (simp (maxSteps := 900000) only [go_sem]; (repeat' (first | with_reducible rfl | exact E.RK.mk (by kernel_rfl) | apply And.intro | (push_cast; with_reducible rfl) | (refine E.int_c ?_; omega) | (simp only [go_sem]; done) | (rw [List.map_append]; rfl) | (simp; done) | (simp only [*]; done) | fail)); done))
    | apply And.intro
    | omega
    | (exact eqE_1 (by omega) (by omega) h hR; done)
    | (exact eqE_0 (by omega) (by omega) h hR; done)
    | (exact eqE_e (by omega) (by omega) hR; done)
    | (have e : a.length ≠ b.length := (by omega); symm; rw [decide_eq_false_iff_not]; intro e2; exact e (by rw [e2]); done)
    | fail)
theorem concatE2_c (b x : List LEnt) (hl : b.length + x.length ≤ 1048576) : Fn Go.Proofs.Tryz.prog 232 [.c (.s false 1 ([b, x].map eLE))] [.c .d] [.c (.s true 7 ((b ++ x).map eLEnt))] := concatE_c [b, x] (b ++ x) (by simp) (by simp) (by simpa using hl)
end
end Go.Abs

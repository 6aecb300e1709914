/- Contracts of functions of the program, over the abstract machine, and facts for them. No condition. -/
import Derived.Test.YtijifinpifomcaaGreatFacts
import Derived.Test.YtijifinpifomcaaGreatPure25
set_option linter.unusedVariables false
set_option linter.unusedSimpArgs false
set_option linter.unnecessarySimpa false
set_option linter.constructorNameAsVariable false
set_option maxHeartbeats 4000000
set_option maxRecDepth 100000
namespace Go.Abs
open Go
theorem mix : Go.Proofs.Tryz.prog.follows .mixedOrders = true := by kernel_rfl
def mdM : Nat → Nat → Bool := fun _ _ => false
theorem toNat_pred (i : Nat) : ((i : Int) - 1).toNat = i - 1 := by omega
attribute [local go_sem ↓] E.argsA_h E.wq_ret E.wq_req E.wq_bad E.wq_call E.wq_get E.wq_getO E.wq_getOs E.wq_getPs E.wq_fresh E.wq_anyNil E.wq_getR0 E.wq_getR E.wq_ixM E.wq_n E.wq_g E.wq_gn E.ev_skip E.ev_region E.ev_draw E.ev_seq E.ev_cond E.ev_block E.ev_exit E.ev_ret E.sq_n E.sq_e E.sq_r E.bl_n E.bl_e E.bl_r E.lp_n E.lp_e E.lp_r E.fk_n E.fk_r E.q_move E.q_assign E.q_pick E.q_bin E.q_binw E.q_un E.q_alloc E.q_box E.q_build E.q_buildS E.q_makeS E.q_load E.q_store E.q_nilCheck E.q_slice E.q_fieldAddr E.q_field E.q_indexAddr E.q_extract E.q_makeFunc E.q_call E.q_callT E.q_len E.q_append E.q_min E.q_max E.q_convert E.q_cap E.q_clear appendIM appendZM E.b_add E.b_sub E.b_mul E.b_eql E.b_neq E.b_lss E.b_leq E.b_gtr E.b_geq E.GO_tmp E.GO_int E.GO_bool E.GO_str E.GO_nil E.GO_func E.GOs_nil E.GOs_cons E.GPs_nil E.GPs_cons E.RW_nil E.RW_cons E.dstAt_0 E.dstAt_s E.keepL_nil E.keepL_s E.keepL_k E.rmN_nil E.rmN_cons E.memN_nil E.memN_cons E.memK_nil E.memK_cons E.ovl_nil E.ovl_kk E.ovl_sk E.ovl_ks E.ovl_ss ofL_s ofL_sk ofL_ks ofL_k ofL_nil E.CO_tmp E.CO_bool
attribute [local go_sem] E.RM_nil E.RM_cons E.kd_k E.sbr_eq E.s3_nil E.s3_s E.s3_k E.vr_c E.vr_a E.vr_p E.vr_q E.vr_t E.vr_f E.vr_u E.cr_r E.cr_v E.cr_b E.cr_n E.cr_u E.crs_nil E.crs_cons E.renK_nil E.renK_cons keysVs V.keys C.keys keysCs E.RG_nil E.RG_cons E.GV_v E.GB_true E.GB_false E.GX_b E.GG_t E.GG_f E.GG_u E.GU_some E.IX_0 E.IX_s E.CX_s E.FR_none E.EN_e E.GVB_b E.b_boolM E.b_nilM E.b_strM E.b_aggM
attribute [local go_sem] List.cons_append List.nil_append List.append_nil List.length_cons List.length_nil List.length_map List.length_append callM E.argsH_nil E.argsH_cons E.argH_c E.argH_a E.argH_f E.argH_p ptrH_s E.cellsH_nil E.cellsH_cons E.cellH_v E.cellH_b E.cellH_n E.cellH_nt E.cellH_u E.cellH_rt E.cellH_rf capsA capA callable backs backT resVs resV resC tupV lenV intV boolV getE getO entryL entryKs A.ts entryV entryC entryCs entryCap List.map_cons List.map_nil E.cut_n E.cut_r E.cutM plainL A.lastOK T.lastOK Bool.false_or A.capOK szEs szE szT SZ whole toB toC List.drop_zero List.take_zero List.take_succ_cons List.drop_succ_cons resultsM resultM outM outM1 convs conv finAs finA finT finTs Int.toNat_natCast A.plain T.plain List.isEmpty_nil List.isEmpty_cons Bool.or_true Bool.true_or Bool.and_self List.getElem?_cons_zero List.getElem?_cons_succ Option.bind_some Option.bind_none Option.bind Nat.zero_add Nat.add_zero OWN BOR ONE SCAL DE ETA E.take_rest Int.toNat_zero E.take_map E.drop_map E.take_len1 List.take_length E.app_map Int.natCast_zero Int.sub_zero Int.toNat_sub partCells V.cells convsL appendM srcM E.scalEs_nil E.scalEs_cons E.oneEs_nil E.oneEs_cons List.all_cons List.all_nil T.one Bool.and_true gone ownEs ownE ownT borEs borE borT setRow splice List.set_cons_zero List.set_cons_succ optI getOpt sliceM ptrTo app_ofL T.isV Value.oneCell' fillC zeroC spliceC allV eqVs eqV minV maxV setAt setCell holed List.dropLast List.getLast?_singleton Option.getD_some Option.isSome_some Option.isSome_none Bool.and_false Bool.true_and Bool.false_and Option.map_some Option.map_none false_or true_or or_true rowAt cellAt E.constV_nil E.constV_int E.constV_bool E.constV_str E.setCell_set E.setCell_len setRow setAt List.dropLast_cons_cons List.dropLast_singleton List.getLast?_cons_cons
attribute [local go_sem_proc ↓] reduceIte
attribute [local go_sem_proc] Nat.reduceEqDiff reduceCtorEq Nat.reduceAdd Nat.reduceMul
attribute [local irreducible] E.argsH E.argH E.cellsH E.cellH E.GV E.GB E.GX E.GG E.GU E.IX E.CX E.RW E.FR E.EN E.CALL E.GO E.GOs E.GPs E.GVB E.KD E.RM E.RG E.CO E.WQ E.EV E.SQ E.BL E.LP E.FK E.S3 E.RK E.NEXT E.NQ E.INDEP
attribute [local go_sem] mdM toNat_pred
theorem in_i (x : Int) (lo : Int) (hi : Int) : Fn Go.Proofs.Tryz.prog 68 [.c (.v (vi x)), .c (.v (vi lo)), .c (.v (vi hi))] [.c .d, .c .d, .c .d] [.c (.v (.bool (inR x lo hi)))] := by
  refine E.Fn.ev (n := 15) mdM false mix Go.Proofs.Tryz.func68 rfl (by simp [Go.Proofs.Tryz.f68]) Go.Proofs.Tryz.ntmps68 (by simp) (by kernel_rfl) (rs := [.tmp 6]) (tys := [4]) rfl rfl (by simp [finOK, A.ts, OWN, ownE, ownT]) (by simp [resOK, A.ts, OWN, ownE, ownT, DE]) ?_
  simp only [go_sem]
  repeat' (first
    | simp only [IJS]
    | (refine E.GB.use (fun h => ?_) (fun h => ?_) <;> (simp only [go_sem, h]) <;> (try simp only [HFS] at h))
    | (simp [inR]; omega; done)
    | fail)
theorem in_s (x : Int) (lo : Int) (hi : Int) : Fn Go.Proofs.Tryz.prog 76 [.c (.v (vi x)), .c (.v (vi lo)), .c (.v (vi hi))] [.c .d, .c .d, .c .d] [.c (.v (.bool (inR x lo hi)))] := by
  refine E.Fn.ev (n := 15) mdM false mix Go.Proofs.Tryz.func76 rfl (by simp [Go.Proofs.Tryz.f76]) Go.Proofs.Tryz.ntmps76 (by simp) (by kernel_rfl) (rs := [.tmp 6]) (tys := [4]) rfl rfl (by simp [finOK, A.ts, OWN, ownE, ownT]) (by simp [resOK, A.ts, OWN, ownE, ownT, DE]) ?_
  simp only [go_sem]
  repeat' (first
    | simp only [IJS]
    | (refine E.GB.use (fun h => ?_) (fun h => ?_) <;> (simp only [go_sem, h]) <;> (try simp only [HFS] at h))
    | (simp [inR]; omega; done)
    | fail)
def prevI (l : List Int) (i : Nat) : Option Int := if i = 0 then none else some (at' l (i - 1))
theorem prevI_s (l : List Int) (i : Nat) : prevI l (i + 1) = some (at' l i) := rfl
theorem prevI_p {l : List Int} {i : Nat} (h : 0 < i) : prevI l i = some (at' l (i - 1)) := by rw [prevI, if_neg (by omega)]
theorem prevI_0 {l : List Int} {i : Nat} (h : i = 0) : prevI l i = none := by rw [prevI, if_pos h]
theorem areSrv_i (l : List Int) (hl : l.length ≤ 1048576) : Fn Go.Proofs.Tryz.prog 127 [.c (.s false 1 (l.map eInt))] [.c .d] [.c (.v (.bool (areServers l)))] := by
  refine E.Fn.ev (n := 29) mdM false mix Go.Proofs.Tryz.func127 rfl (by simp [Go.Proofs.Tryz.f127]) Go.Proofs.Tryz.ntmps127 (by simp) (by kernel_rfl) (rs := [.tmp 2]) (tys := [4]) rfl rfl (by simp [finOK, A.ts, OWN, ownE, ownT]) (by simp [resOK, A.ts, OWN, ownE, ownT, DE]) ?_
  simp only [go_sem]
  repeat' (first
    | simp only [IJS]
    | (refine E.CALL.use (in_i _ _ _) ?_ <;> (try simp only [go_sem]))
    | (refine E.GB.use (fun h => ?_) (fun h => ?_) <;> (simp only [go_sem, h]) <;> (try simp only [HFS] at h))
    | exact E.RK.mk (by kernel_rfl)
    | (refine E.IX_map ?_ (fun hx => ?_); rotate_left; simp only [go_sem])
    | (refine E.loopR (ι := Nat) 2 rfl (fun i => [(.s 7, .v (.c (.v (vi i))))]) [0, 5, 6] [] [] (fun i => (l).length - i) (fun i => i ≤ (l).length ∧ srvGo (prevI l i) (l.drop i) = areServers l) mix (by kernel_rfl) 0 ?_ ?_ (fun i ⟨hi, hR⟩ => ?_); all_goals (try simp (maxSteps := 900000) only [go_sem]); all_goals (try dsimp only at hi hR))
    | (refine E.NEXT.use [] (i + 1) ?_ ?_ ?_; rotate_left 2; focus (simp (maxSteps := 900000) only [go_sem]; (repeat' (first | with_reducible rfl | exact E.RK.mk (by kernel_rfl) | apply And.intro | (push_cast; with_reducible rfl) | (refine E.int_c ?_; omega) | (simp only [go_sem]; done) | (rw [List.map_append]; rfl) | (simp; done) | (simp only [*]; done) | fail)); done))
    | apply And.intro
    | omega
    | (rfl; done)
    | (rw [drop_at (l := l) (i := i) (by omega)] at hR; rw [← hR, prevI_p (by omega)]; simp [srvGo, Int.not_lt.2 h, *]; done)
    | (rw [drop_at (l := l) (i := i) (by omega)] at hR; rw [← hR]; simp [srvGo, *]; done)
    | (rw [drop_at (l := l) (i := i) (by omega)] at hR; rw [prevI_s, ← hR, prevI_p (by omega)]; simp [srvGo, *]; done)
    | (rw [drop_at (l := l) (i := i) (by omega)] at hR; rw [prevI_s, ← hR, prevI_0 (by omega)]; simp [srvGo, *]; done)
    | (rw [E.drop_end (l := l) (i := i) (by omega)] at hR; rw [← hR]; rfl; done)
    | fail)
theorem areSrv_s (l : List Int) (hl : l.length ≤ 1048576) : Fn Go.Proofs.Tryz.prog 147 [.c (.s false 1 (l.map eInt))] [.c .d] [.c (.v (.bool (areServers l)))] := by
  refine E.Fn.ev (n := 32) mdM false mix Go.Proofs.Tryz.func147 rfl (by simp [Go.Proofs.Tryz.f147]) Go.Proofs.Tryz.ntmps147 (by simp) (by kernel_rfl) (rs := [.tmp 2]) (tys := [4]) rfl rfl (by simp [finOK, A.ts, OWN, ownE, ownT]) (by simp [resOK, A.ts, OWN, ownE, ownT, DE]) ?_
  simp only [go_sem]
  repeat' (first
    | simp only [IJS]
    | (refine E.CALL.use (in_s _ _ _) ?_ <;> (try simp only [go_sem]))
    | (refine E.GB.use (fun h => ?_) (fun h => ?_) <;> (simp only [go_sem, h]) <;> (try simp only [HFS] at h))
    | exact E.INDEP.mk2 (by kernel_rfl)
    | exact E.RK.mk (by kernel_rfl)
    | (refine E.IX_map ?_ (fun hx => ?_); rotate_left; simp only [go_sem])
    | (refine E.loopR (ι := Nat) 2 rfl (fun i => [(.s 3, .v (.c (.v (vi i))))]) [0] [] [] (fun i => (l).length - i) (fun i => i ≤ (l).length ∧ srvGo (prevI l i) (l.drop i) = areServers l) mix (by kernel_rfl) 0 ?_ ?_ (fun i ⟨hi, hR⟩ => ?_); all_goals (try simp (maxSteps := 900000) only [go_sem]); all_goals (try dsimp only at hi hR))
    | (refine E.NEXT.use [] (i + 1) ?_ ?_ ?_; rotate_left 2; focus (simp (maxSteps := 900000) only [go_sem]; (repeat' (first | with_reducible rfl | exact E.RK.mk (by kernel_rfl) | apply And.intro | (push_cast; with_reducible rfl) | (refine E.int_c ?_; omega) | (simp only [go_sem]; done) | (rw [List.map_append]; rfl) | (simp; done) | (simp only [*]; done) | fail)); done))
    | apply And.intro
    | omega
    | (rfl; done)
    | (rw [drop_at (l := l) (i := i) (by omega)] at hR; rw [← hR, prevI_p (by omega)]; simp [srvGo, Int.not_lt.2 h, *]; done)
    | (rw [drop_at (l := l) (i := i) (by omega)] at hR; rw [← hR]; simp [srvGo, *]; done)
    | (rw [drop_at (l := l) (i := i) (by omega)] at hR; rw [prevI_s, ← hR, prevI_p (by omega)]; simp [srvGo, *]; done)
    | (rw [drop_at (l := l) (i := i) (by omega)] at hR; rw [prevI_s, ← hR, prevI_0 (by omega)]; simp [srvGo, *]; done)
    | (rw [E.drop_end (l := l) (i := i) (by omega)] at hR; rw [← hR]; rfl; done)
    | fail)
theorem eqI (a : List Int) (b : List Int) (ha : a.length ≤ 1048576) (hb : b.length ≤ 1048576) : Fn Go.Proofs.Tryz.prog 138 [.c (.s false 1 (a.map eInt)), .c (.s false 1 (b.map eInt))] [.c .d, .c .d] [.c (.v (.bool (a == b)))] := by
  refine E.Fn.ev (n := 26) mdM false mix Go.Proofs.Tryz.func138 rfl (by simp [Go.Proofs.Tryz.f138]) Go.Proofs.Tryz.ntmps138 (by simp) (by kernel_rfl) (rs := [.tmp 4]) (tys := [4]) rfl rfl (by simp [finOK, A.ts, OWN, ownE, ownT]) (by simp [resOK, A.ts, OWN, ownE, ownT, DE]) ?_
  simp only [go_sem]
  repeat' (first
    | simp only [IJS]
    | (refine E.GB.use (fun h => ?_) (fun h => ?_) <;> (simp only [go_sem, h]) <;> (try simp only [HFS] at h))
    | exact E.INDEP.mk2 (by kernel_rfl)
    | exact E.RK.mk (by kernel_rfl)
    | (refine E.IX_map ?_ (fun hx => ?_); rotate_left; simp only [go_sem])
    | (refine E.loopR (ι := Nat) 4 rfl (fun i => [(.s 13, .v (.c (.v (vi i))))]) [0, 1, 12] [] [] (fun i => (a).length - i) (fun i => i ≤ (a).length ∧ a.length = b.length ∧ (a.drop i == b.drop i) = (a == b)) mix (by kernel_rfl) 0 ?_ ?_ (fun i ⟨hi, hn, hR⟩ => ?_); all_goals (try simp (maxSteps := 900000) only [go_sem]); all_goals (try dsimp only at hi hn hR))
    | (refine E.NEXT.use [] (i + 1) ?_ ?_ ?_; rotate_left 2; focus (simp (maxSteps := 900000) only [go_sem]; (repeat' (first | with_reducible rfl | exact E.RK.mk (by kernel_rfl) | apply And.intro | (push_cast; with_reducible rfl) | (refine E.int_c ?_; omega) | (simp only [go_sem]; done) | (rw [List.map_append]; rfl) | (simp; done) | (simp only [*]; done) | fail)); done))
    | apply And.intro
    | omega
    | (rw [drop_at (l := a) (i := i) (by omega)] at hR; rw [drop_at (l := b) (i := i) (by omega)] at hR; simp_all; done)
    | (rw [E.drop_end (l := a) (i := i) (by omega)] at hR; rw [E.drop_end (l := b) (i := i) (by omega)] at hR; simp_all; done)
    | (symm; simp only [beq_eq_false_iff_ne, ne_eq]; intro e; subst e; omega; done)
    | fail)
theorem eqSrv_s (a : List Int) (b : List Int) (ha : a.length ≤ 1048576) (hb : b.length ≤ 1048576) : Fn Go.Proofs.Tryz.prog 91 [.c (.s false 1 (a.map eInt)), .c (.s false 1 (b.map eInt))] [.c .d, .c .d] [.c (.v (.bool (a == b)))] := by
  refine E.Fn.ev (n := 26) mdM false mix Go.Proofs.Tryz.func91 rfl (by simp [Go.Proofs.Tryz.f91]) Go.Proofs.Tryz.ntmps91 (by simp) (by kernel_rfl) (rs := [.tmp 4]) (tys := [4]) rfl rfl (by simp [finOK, A.ts, OWN, ownE, ownT]) (by simp [resOK, A.ts, OWN, ownE, ownT, DE]) ?_
  simp only [go_sem]
  repeat' (first
    | simp only [IJS]
    | (refine E.GB.use (fun h => ?_) (fun h => ?_) <;> (simp only [go_sem, h]) <;> (try simp only [HFS] at h))
    | exact E.INDEP.mk2 (by kernel_rfl)
    | exact E.RK.mk (by kernel_rfl)
    | (refine E.IX_map ?_ (fun hx => ?_); rotate_left; simp only [go_sem])
    | (refine E.loopR (ι := Nat) 4 rfl (fun i => [(.s 5, .v (.c (.v (vi i))))]) [0, 1] [] [] (fun i => (a).length - i) (fun i => i ≤ (a).length ∧ a.length = b.length ∧ (a.drop i == b.drop i) = (a == b)) mix (by kernel_rfl) 0 ?_ ?_ (fun i ⟨hi, hn, hR⟩ => ?_); all_goals (try simp (maxSteps := 900000) only [go_sem]); all_goals (try dsimp only at hi hn hR))
    | (refine E.NEXT.use [] (i + 1) ?_ ?_ ?_; rotate_left 2; focus (simp (maxSteps := 900000) only [go_sem]; (repeat' (first | with_reducible rfl | exact E.RK.mk (by kernel_rfl) | apply And.intro | (push_cast; with_reducible rfl) | (refine E.int_c ?_; omega) | (simp only [go_sem]; done) | (rw [List.map_append]; rfl) | (simp; done) | (simp only [*]; done) | fail)); done))
    | apply And.intro
    | omega
    | (rw [drop_at (l := a) (i := i) (by omega)] at hR; rw [drop_at (l := b) (i := i) (by omega)] at hR; simp_all; done)
    | (rw [E.drop_end (l := a) (i := i) (by omega)] at hR; rw [E.drop_end (l := b) (i := i) (by omega)] at hR; simp_all; done)
    | (symm; simp only [beq_eq_false_iff_ne, ne_eq]; intro e; subst e; omega; done)
    | fail)
theorem eqIntS_l (a : List Int) (b : List Int) (ha : a.length ≤ 1048576) (hb : b.length ≤ 1048576) : Fn Go.Proofs.Tryz.prog 48 [.c (.s false 1 (a.map eInt)), .c (.s false 1 (b.map eInt))] [.c .d, .c .d] [.c (.v (.bool (a == b)))] := by
  refine E.Fn.ev (n := 26) mdM false mix Go.Proofs.Tryz.func48 rfl (by simp [Go.Proofs.Tryz.f48]) Go.Proofs.Tryz.ntmps48 (by simp) (by kernel_rfl) (rs := [.tmp 4]) (tys := [4]) rfl rfl (by simp [finOK, A.ts, OWN, ownE, ownT]) (by simp [resOK, A.ts, OWN, ownE, ownT, DE]) ?_
  simp only [go_sem]
  repeat' (first
    | simp only [IJS]
    | (refine E.GB.use (fun h => ?_) (fun h => ?_) <;> (simp only [go_sem, h]) <;> (try simp only [HFS] at h))
    | exact E.INDEP.mk2 (by kernel_rfl)
    | exact E.RK.mk (by kernel_rfl)
    | (refine E.IX_map ?_ (fun hx => ?_); rotate_left; simp only [go_sem])
    | (refine E.loopR (ι := Nat) 4 rfl (fun i => [(.s 5, .v (.c (.v (vi i))))]) [0, 1] [] [] (fun i => (a).length - i) (fun i => i ≤ (a).length ∧ a.length = b.length ∧ (a.drop i == b.drop i) = (a == b)) mix (by kernel_rfl) 0 ?_ ?_ (fun i ⟨hi, hn, hR⟩ => ?_); all_goals (try simp (maxSteps := 900000) only [go_sem]); all_goals (try dsimp only at hi hn hR))
    | (refine E.NEXT.use [] (i + 1) ?_ ?_ ?_; rotate_left 2; focus (simp (maxSteps := 900000) only [go_sem]; (repeat' (first | with_reducible rfl | exact E.RK.mk (by kernel_rfl) | apply And.intro | (push_cast; with_reducible rfl) | (refine E.int_c ?_; omega) | (simp only [go_sem]; done) | (rw [List.map_append]; rfl) | (simp; done) | (simp only [*]; done) | fail)); done))
    | apply And.intro
    | omega
    | (rw [drop_at (l := a) (i := i) (by omega)] at hR; rw [drop_at (l := b) (i := i) (by omega)] at hR; simp_all; done)
    | (rw [E.drop_end (l := a) (i := i) (by omega)] at hR; rw [E.drop_end (l := b) (i := i) (by omega)] at hR; simp_all; done)
    | (symm; simp only [beq_eq_false_iff_ne, ne_eq]; intro e; subst e; omega; done)
    | fail)
theorem eqSrv_i (a : List Int) (b : List Int) (ha : a.length ≤ 1048576) (hb : b.length ≤ 1048576) : Fn Go.Proofs.Tryz.prog 102 [.c (.s false 1 (a.map eInt)), .c (.s false 1 (b.map eInt))] [.c .d, .c .d] [.c (.v (.bool (a == b)))] := by
  refine E.Fn.ev (n := 8) mdM false mix Go.Proofs.Tryz.func102 rfl (by simp [Go.Proofs.Tryz.f102]) Go.Proofs.Tryz.ntmps102 (by simp) (by kernel_rfl) (rs := [.tmp 4]) (tys := [4]) rfl rfl (by simp [finOK, A.ts, OWN, ownE, ownT]) (by simp [resOK, A.ts, OWN, ownE, ownT, DE]) ?_
  simp only [go_sem]
  repeat' (first
    | simp only [IJS]
    | (refine E.CALL.use (eqI _ _ ?_ ?_) ?_ <;> (try simp only [go_sem]))
    | omega
    | fail)
def idxGo (x : Int) (i : Nat) : List Int → Int
  | [] => -1
  | y :: ys => if x = y then i else idxGo x (i + 1) ys
theorem idxGo_ge (x : Int) : ∀ (l : List Int) (i : Nat), decide (0 ≤ idxGo x i l) = l.contains x
  | [], i => by simp [idxGo]
  | y :: ys, i => by
    have := idxGo_ge x ys (i + 1)
    simp only [idxGo, List.contains_cons]
    by_cases h : x = y
    · simp [h]
    · simp only [if_neg h, this]; simp [h]
theorem idx_c (l : List Int) (x : Int) (hl : l.length ≤ 1048576) : Fn Go.Proofs.Tryz.prog 151 [.c (.s false 1 (l.map eInt)), .c (.v (vi x))] [.c .d, .c .d] [.c (.v (vi (idxGo x 0 l)))] := by
  refine E.Fn.ev (n := 19) mdM false mix Go.Proofs.Tryz.func151 rfl (by simp [Go.Proofs.Tryz.f151]) Go.Proofs.Tryz.ntmps151 (by simp) (by kernel_rfl) (rs := [.tmp 4]) (tys := [3]) rfl rfl (by simp [finOK, A.ts, OWN, ownE, ownT]) (by simp [resOK, A.ts, OWN, ownE, ownT, DE]) ?_
  simp only [go_sem]
  repeat' (first
    | simp only [IJS]
    | (refine E.GB.use (fun h => ?_) (fun h => ?_) <;> (simp only [go_sem, h]) <;> (try simp only [HFS] at h))
    | exact E.RK.mk (by kernel_rfl)
    | (refine E.IX_map ?_ (fun hx => ?_); rotate_left; simp only [go_sem])
    | (refine E.loopR (ι := Nat) 2 rfl (fun i => [(.s 8, .v (.c (.v (vi i))))]) [0, 1, 7] [] [] (fun i => (l).length - i) (fun i => i ≤ (l).length ∧ idxGo x i (l.drop i) = idxGo x 0 l) mix (by kernel_rfl) 0 ?_ ?_ (fun i ⟨hi, hR⟩ => ?_); all_goals (try simp (maxSteps := 900000) only [go_sem]); all_goals (try dsimp only at hi hR))
    | (refine E.NEXT.use [] (i + 1) ?_ ?_ ?_; rotate_left 2; focus (simp (maxSteps := 900000) only [go_sem]; (repeat' (first | with_reducible rfl | exact E.RK.mk (by kernel_rfl) | apply And.intro | (push_cast; with_reducible rfl) | (refine E.int_c ?_; omega) | (simp only [go_sem]; done) | (rw [List.map_append]; rfl) | (simp; done) | (simp only [*]; done) | fail)); done))
    | apply And.intro
    | omega
    | (rw [drop_at (l := l) (i := i) (by omega)] at hR; rw [← hR]; simp [idxGo, *]; done)
    | (rw [E.drop_end (l := l) (i := i) (by omega)] at hR; rw [← hR]; rfl; done)
    | fail)
theorem contains_c (l : List Int) (x : Int) (hl : l.length ≤ 1048576) : Fn Go.Proofs.Tryz.prog 129 [.c (.s false 1 (l.map eInt)), .c (.v (vi x))] [.c .d, .c .d] [.c (.v (.bool (l.contains x)))] := by
  refine E.Fn.ev (n := 9) mdM false mix Go.Proofs.Tryz.func129 rfl (by simp [Go.Proofs.Tryz.f129]) Go.Proofs.Tryz.ntmps129 (by simp) (by kernel_rfl) (rs := [.tmp 4]) (tys := [4]) rfl rfl (by simp [finOK, A.ts, OWN, ownE, ownT]) (by simp [resOK, A.ts, OWN, ownE, ownT, DE]) ?_
  simp only [go_sem]
  repeat' (first
    | simp only [IJS]
    | (refine E.CALL.use (idx_c _ _ ?_) ?_ <;> (try simp only [go_sem]))
    | omega
    | (rw [← idxGo_ge x l 0]; done)
    | fail)
theorem has_i (l : List Int) (x : Int) (hl : l.length ≤ 1048576) : Fn Go.Proofs.Tryz.prog 84 [.c (.s false 1 (l.map eInt)), .c (.v (vi x))] [.c .d, .c .d] [.c (.v (.bool (l.contains x)))] := by
  refine E.Fn.ev (n := 8) mdM false mix Go.Proofs.Tryz.func84 rfl (by simp [Go.Proofs.Tryz.f84]) Go.Proofs.Tryz.ntmps84 (by simp) (by kernel_rfl) (rs := [.tmp 4]) (tys := [4]) rfl rfl (by simp [finOK, A.ts, OWN, ownE, ownT]) (by simp [resOK, A.ts, OWN, ownE, ownT, DE]) ?_
  simp only [go_sem]
  repeat' (first
    | simp only [IJS]
    | (refine E.CALL.use (contains_c _ _ ?_) ?_ <;> (try simp only [go_sem]))
    | omega
    | fail)
theorem has_s (l : List Int) (x : Int) (hl : l.length ≤ 1048576) : Fn Go.Proofs.Tryz.prog 124 [.c (.s false 1 (l.map eInt)), .c (.v (vi x))] [.c .d, .c .d] [.c (.v (.bool (l.contains x)))] := by
  refine E.Fn.ev (n := 18) mdM false mix Go.Proofs.Tryz.func124 rfl (by simp [Go.Proofs.Tryz.f124]) Go.Proofs.Tryz.ntmps124 (by simp) (by kernel_rfl) (rs := [.tmp 4]) (tys := [4]) rfl rfl (by simp [finOK, A.ts, OWN, ownE, ownT]) (by simp [resOK, A.ts, OWN, ownE, ownT, DE]) ?_
  simp only [go_sem]
  repeat' (first
    | simp only [IJS]
    | (refine E.GB.use (fun h => ?_) (fun h => ?_) <;> (simp only [go_sem, h]) <;> (try simp only [HFS] at h))
    | exact E.RK.mk (by kernel_rfl)
    | (refine E.IX_map ?_ (fun hx => ?_); rotate_left; simp only [go_sem])
    | (refine E.loopR (ι := Nat) 2 rfl (fun i => [(.s 5, .v (.c (.v (vi i))))]) [0, 1] [] [] (fun i => (l).length - i) (fun i => i ≤ (l).length ∧ (l.drop i).contains x = l.contains x) mix (by kernel_rfl) 0 ?_ ?_ (fun i ⟨hi, hR⟩ => ?_); all_goals (try simp (maxSteps := 900000) only [go_sem]); all_goals (try dsimp only at hi hR))
    | (refine E.NEXT.use [] (i + 1) ?_ ?_ ?_; rotate_left 2; focus (simp (maxSteps := 900000) only [go_sem]; (repeat' (first | with_reducible rfl | exact E.RK.mk (by kernel_rfl) | apply And.intro | (push_cast; with_reducible rfl) | (refine E.int_c ?_; omega) | (simp only [go_sem]; done) | (rw [List.map_append]; rfl) | (simp; done) | (simp only [*]; done) | fail)); done))
    | apply And.intro
    | omega
    | (rw [drop_at (l := l) (i := i) (by omega)] at hR; rw [← hR]; simp [*]; done)
    | (rw [E.drop_end (l := l) (i := i) (by omega)] at hR; rw [← hR]; rfl; done)
    | (rw [drop_at (l := l) (i := i) (by omega)] at hR; rw [← hR]; simp only [List.contains_cons]; simp; intro e; exact absurd e.symm h; done)
    | fail)
theorem validOp_i (o : ROp) : Fn Go.Proofs.Tryz.prog 120 [.a (eROp o)] [.a [.d, .d, .d, .d, .d, .d]] [.c (.v (.bool (validOp o)))] := by
  refine E.Fn.ev (n := 43) mdM false mix Go.Proofs.Tryz.func120 rfl (by simp [Go.Proofs.Tryz.f120]) Go.Proofs.Tryz.ntmps120 (by simp) (by kernel_rfl) (rs := [.tmp 2]) (tys := [4]) rfl rfl (by simp [finOK, A.ts, OWN, ownE, ownT]) (by simp [resOK, A.ts, OWN, ownE, ownT, DE]) ?_
  simp only [go_sem]
  repeat' (first
    | simp only [IJS]
    | (refine E.CALL.use (in_i _ _ _) ?_ <;> (try simp only [go_sem]))
    | (refine E.GB.use (fun h => ?_) (fun h => ?_) <;> (simp only [go_sem, h]) <;> (try simp only [HFS] at h))
    | apply And.intro
    | omega
    | (simp [validOp, *]; done)
    | fail)
theorem validOp_s (o : ROp) : Fn Go.Proofs.Tryz.prog 125 [.a (eROp o)] [.a [.d, .d, .d, .d, .d, .d]] [.c (.v (.bool (validOp o)))] := by
  refine E.Fn.ev (n := 43) mdM false mix Go.Proofs.Tryz.func125 rfl (by simp [Go.Proofs.Tryz.f125]) Go.Proofs.Tryz.ntmps125 (by simp) (by kernel_rfl) (rs := [.tmp 2]) (tys := [4]) rfl rfl (by simp [finOK, A.ts, OWN, ownE, ownT]) (by simp [resOK, A.ts, OWN, ownE, ownT, DE]) ?_
  simp only [go_sem]
  repeat' (first
    | simp only [IJS]
    | (refine E.CALL.use (in_s _ _ _) ?_ <;> (try simp only [go_sem]))
    | (refine E.GB.use (fun h => ?_) (fun h => ?_) <;> (simp only [go_sem, h]) <;> (try simp only [HFS] at h))
    | apply And.intro
    | omega
    | (simp [validOp, *]; done)
    | fail)
def prevE (l : List LEnt) (i : Nat) : Option Int := if i = 0 then none else some (at' l (i - 1)).epoch
theorem prevEI_s (l : List LEnt) (i : Nat) : prevE l (i + 1) = some (at' l i).epoch := rfl
theorem prevEI_p {l : List LEnt} {i : Nat} (h : 0 < i) : prevE l i = some (at' l (i - 1)).epoch := by rw [prevE, if_neg (by omega)]
theorem prevEI_0 {l : List LEnt} {i : Nat} (h : i = 0) : prevE l i = none := by rw [prevE, if_pos h]
theorem isLog_i (l : List LEnt) (hl : l.length ≤ 1048576) : Fn Go.Proofs.Tryz.prog 67 [.c (.s false 7 (l.map eLEnt))] [.c .d] [.c (.v (.bool (isLog l)))] := by
  refine E.Fn.ev (n := 41) mdM false mix Go.Proofs.Tryz.func67 rfl (by simp [Go.Proofs.Tryz.f67]) Go.Proofs.Tryz.ntmps67 (by simp) (by kernel_rfl) (rs := [.tmp 2]) (tys := [4]) rfl rfl (by simp [finOK, A.ts, OWN, ownE, ownT]) (by simp [resOK, A.ts, OWN, ownE, ownT, DE]) ?_
  simp only [go_sem]
  repeat' (first
    | simp only [IJS]
    | (refine E.CALL.use (in_i _ _ _) ?_ <;> (try simp only [go_sem]))
    | (refine E.CALL.use (validOp_i _) ?_ <;> (try simp only [go_sem]))
    | (refine E.GB.use (fun h => ?_) (fun h => ?_) <;> (simp only [go_sem, h]) <;> (try simp only [HFS] at h))
    | exact E.INDEP.mk2 (by kernel_rfl)
    | exact E.RK.mk (by kernel_rfl)
    | (refine E.IX_map ?_ (fun hx => ?_); rotate_left; simp only [go_sem])
    | (refine E.loopR (ι := Nat) 2 rfl (fun i => [(.s 7, .v (.c (.v (vi i))))]) [0, 5, 6, 38, 39, 40] [] [] (fun i => (l).length - i) (fun i => i ≤ (l).length ∧ (logGo (prevE l i) (l.drop i) && decide ((l.length : Int) ≤ 16)) = isLog l) mix (by kernel_rfl) 0 ?_ ?_ (fun i ⟨hi, hR⟩ => ?_); all_goals (try simp (maxSteps := 900000) only [go_sem]); all_goals (try dsimp only at hi hR))
    | (refine E.NEXT.use [] (i + 1) ?_ ?_ ?_; rotate_left 2; focus (simp (maxSteps := 900000) only [go_sem]; (repeat' (first | with_reducible rfl | exact E.RK.mk (by kernel_rfl) | apply And.intro | (push_cast; with_reducible rfl) | (refine E.int_c ?_; omega) | (simp only [go_sem]; done) | (rw [List.map_append]; rfl) | (simp; done) | (simp only [*]; done) | fail)); done))
    | apply And.intro
    | omega
    | (rfl; done)
    | (rw [drop_at (l := l) (i := i) (by omega)] at hR; rw [← hR, prevEI_p (by omega)]; simp [logGo, *]; done)
    | (rw [drop_at (l := l) (i := i) (by omega)] at hR; rw [← hR, prevEI_p (by omega)]; simp [logGo, Int.not_le.2 h, *]; done)
    | (rw [drop_at (l := l) (i := i) (by omega)] at hR; rw [← hR]; simp [logGo, *]; done)
    | (rw [drop_at (l := l) (i := i) (by omega)] at hR; rw [prevEI_s, ← hR, prevEI_p (by omega)]; simp [logGo, *]; done)
    | (rw [drop_at (l := l) (i := i) (by omega)] at hR; rw [prevEI_s, ← hR, prevEI_0 (by omega)]; simp [logGo, *]; done)
    | (rw [E.drop_end (l := l) (i := i) (by omega)] at hR; rw [← hR]; rfl; done)
    | fail)
theorem isLog_s (l : List LEnt) (hl : l.length ≤ 1048576) : Fn Go.Proofs.Tryz.prog 75 [.c (.s false 7 (l.map eLEnt))] [.c .d] [.c (.v (.bool (isLog l)))] := by
  refine E.Fn.ev (n := 47) mdM false mix Go.Proofs.Tryz.func75 rfl (by simp [Go.Proofs.Tryz.f75]) Go.Proofs.Tryz.ntmps75 (by simp) (by kernel_rfl) (rs := [.tmp 2]) (tys := [4]) rfl rfl (by simp [finOK, A.ts, OWN, ownE, ownT]) (by simp [resOK, A.ts, OWN, ownE, ownT, DE]) ?_
  simp only [go_sem]
  repeat' (first
    | simp only [IJS]
    | (refine E.CALL.use (in_s _ _ _) ?_ <;> (try simp only [go_sem]))
    | (refine E.CALL.use (validOp_s _) ?_ <;> (try simp only [go_sem]))
    | (refine E.GB.use (fun h => ?_) (fun h => ?_) <;> (simp only [go_sem, h]) <;> (try simp only [HFS] at h))
    | exact E.INDEP.mk2 (by kernel_rfl)
    | exact E.RK.mk (by kernel_rfl)
    | (refine E.IX_map ?_ (fun hx => ?_); rotate_left; simp only [go_sem])
    | (refine E.loopR (ι := Nat) 2 rfl (fun i => [(.s 3, .v (.c (.v (vi i))))]) [0, 44, 45, 46] [] [] (fun i => (l).length - i) (fun i => i ≤ (l).length ∧ (logGo (prevE l i) (l.drop i) && decide ((l.length : Int) ≤ 16)) = isLog l) mix (by kernel_rfl) 0 ?_ ?_ (fun i ⟨hi, hR⟩ => ?_); all_goals (try simp (maxSteps := 900000) only [go_sem]); all_goals (try dsimp only at hi hR))
    | (refine E.NEXT.use [] (i + 1) ?_ ?_ ?_; rotate_left 2; focus (simp (maxSteps := 900000) only [go_sem]; (repeat' (first | with_reducible rfl | exact E.RK.mk (by kernel_rfl) | apply And.intro | (push_cast; with_reducible rfl) | (refine E.int_c ?_; omega) | (simp only [go_sem]; done) | (rw [List.map_append]; rfl) | (simp; done) | (simp only [*]; done) | fail)); done))
    | apply And.intro
    | omega
    | (rfl; done)
    | (rw [drop_at (l := l) (i := i) (by omega)] at hR; rw [← hR, prevEI_p (by omega)]; simp [logGo, Int.not_le.2 h, *]; done)
    | (rw [drop_at (l := l) (i := i) (by omega)] at hR; rw [← hR]; simp [logGo, *]; done)
    | (rw [drop_at (l := l) (i := i) (by omega)] at hR; rw [prevEI_s, ← hR, prevEI_p (by omega)]; simp [logGo, *]; done)
    | (rw [drop_at (l := l) (i := i) (by omega)] at hR; rw [prevEI_s, ← hR, prevEI_0 (by omega)]; simp [logGo, *]; done)
    | (rw [E.drop_end (l := l) (i := i) (by omega)] at hR; rw [← hR]; rfl; done)
    | fail)
def eqConf (a b : Conf) : Bool := (a.epoch == b.epoch) && (a.primary == b.primary) && (a.reps == b.reps) && (a.wits == b.wits)
theorem eqConf_iff {a b : Conf} : eqConf a b = true ↔ a = b := by
  cases a; cases b; simp [eqConf, and_assoc]
theorem eqConf_eq (a b : Conf) : eqConf a b = decide (a = b) := by
  by_cases h : a = b
  · subst h; simp [eqConf_iff.2 rfl]
  · simp only [h, decide_false]; cases hb : eqConf a b with
    | false => rfl
    | true => exact absurd (eqConf_iff.1 hb) h
theorem lastE_at {l : List LEnt} (h : l.length ≠ 0) : lastE l = (at' l (l.length - 1)).epoch := by
  unfold lastE
  rw [List.getLast?_eq_getElem?, at_some (by omega)]
theorem lastE_nil {l : List LEnt} (h : l.length = 0) : lastE l = 0 := by
  rw [List.eq_nil_of_length_eq_zero h]; rfl
theorem eqConf_i (a : Conf) (b : Conf) (h1 : a.reps.length ≤ 1048576) (h2 : a.wits.length ≤ 1048576) (h3 : b.reps.length ≤ 1048576) (h4 : b.wits.length ≤ 1048576) : Fn Go.Proofs.Tryz.prog 45 [.a (eConf false a), .a (eConf false b)] [.a [.d, .d, .d, .d], .a [.d, .d, .d, .d]] [.c (.v (.bool (decide (a = b))))] := by
  refine E.Fn.ev (n := 31) mdM false mix Go.Proofs.Tryz.func45 rfl (by simp [Go.Proofs.Tryz.f45]) Go.Proofs.Tryz.ntmps45 (by simp) (by kernel_rfl) (rs := [.tmp 4]) (tys := [4]) rfl rfl (by simp [finOK, A.ts, OWN, ownE, ownT]) (by simp [resOK, A.ts, OWN, ownE, ownT, DE]) ?_
  simp only [go_sem]
  repeat' (first
    | simp only [IJS]
    | (refine E.CALL.use (eqSrv_i _ _ ?_ ?_) ?_ <;> (try simp only [go_sem]))
    | (refine E.GB.use (fun h => ?_) (fun h => ?_) <;> (simp only [go_sem, h]) <;> (try simp only [HFS] at h))
    | apply And.intro
    | omega
    | (rw [← eqConf_eq]; simp [eqConf, *]; done)
    | fail)
theorem eqConf_s (a : Conf) (b : Conf) (h1 : a.reps.length ≤ 1048576) (h2 : a.wits.length ≤ 1048576) (h3 : b.reps.length ≤ 1048576) (h4 : b.wits.length ≤ 1048576) : Fn Go.Proofs.Tryz.prog 34 [.a (eConf false a), .a (eConf false b)] [.a [.d, .d, .d, .d], .a [.d, .d, .d, .d]] [.c (.v (.bool (decide (a = b))))] := by
  refine E.Fn.ev (n := 31) mdM false mix Go.Proofs.Tryz.func34 rfl (by simp [Go.Proofs.Tryz.f34]) Go.Proofs.Tryz.ntmps34 (by simp) (by kernel_rfl) (rs := [.tmp 4]) (tys := [4]) rfl rfl (by simp [finOK, A.ts, OWN, ownE, ownT]) (by simp [resOK, A.ts, OWN, ownE, ownT, DE]) ?_
  simp only [go_sem]
  repeat' (first
    | simp only [IJS]
    | (refine E.CALL.use (eqSrv_s _ _ ?_ ?_) ?_ <;> (try simp only [go_sem]))
    | (refine E.GB.use (fun h => ?_) (fun h => ?_) <;> (simp only [go_sem, h]) <;> (try simp only [HFS] at h))
    | apply And.intro
    | omega
    | (rw [← eqConf_eq]; simp [eqConf, *]; done)
    | fail)
theorem none_s (c : Conf) (h1 : c.reps.length ≤ 1048576) (h2 : c.wits.length ≤ 1048576) : Fn Go.Proofs.Tryz.prog 85 [.a (eConf false c)] [.a [.d, .d, .d, .d]] [.c (.v (.bool (decide (c = noConf))))] := by
  refine E.Fn.ev (n := 6) mdM false mix Go.Proofs.Tryz.func85 rfl (by simp [Go.Proofs.Tryz.f85]) Go.Proofs.Tryz.ntmps85 (by simp) (by kernel_rfl) (rs := [.tmp 2]) (tys := [4]) rfl rfl (by simp [finOK, A.ts, OWN, ownE, ownT]) (by simp [resOK, A.ts, OWN, ownE, ownT, DE]) ?_
  simp only [go_sem]
  repeat' (first
    | simp only [IJS]
    | (refine E.CALL.use (eqConf_s c noConf ?_ ?_ ?_ ?_) ?_ <;> (try simp only [go_sem]))
    | apply And.intro
    | omega
    | (simp [noConf]; done)
    | fail)
theorem lastE_i (l : List LEnt) (hl : l.length ≤ 1048576) : Fn Go.Proofs.Tryz.prog 69 [.c (.s false 7 (l.map eLEnt))] [.c .d] [.c (.v (vi (lastE l)))] := by
  refine E.Fn.ev (n := 13) mdM false mix Go.Proofs.Tryz.func69 rfl (by simp [Go.Proofs.Tryz.f69]) Go.Proofs.Tryz.ntmps69 (by simp) (by kernel_rfl) (rs := [.tmp 2]) (tys := [3]) rfl rfl (by simp [finOK, A.ts, OWN, ownE, ownT]) (by simp [resOK, A.ts, OWN, ownE, ownT, DE]) ?_
  simp only [go_sem]
  repeat' (first
    | simp only [IJS]
    | (refine E.GB.use (fun h => ?_) (fun h => ?_) <;> (simp only [go_sem, h]) <;> (try simp only [HFS] at h))
    | (refine E.IX_map ?_ (fun hx => ?_); rotate_left; simp only [go_sem])
    | apply And.intro
    | omega
    | (rw [lastE_nil (by omega)]; done)
    | (rw [lastE_at (by omega)]; done)
    | fail)
theorem lastE_s (l : List LEnt) (hl : l.length ≤ 1048576) : Fn Go.Proofs.Tryz.prog 77 [.c (.s false 7 (l.map eLEnt))] [.c .d] [.c (.v (vi (lastE l)))] := by
  refine E.Fn.ev (n := 13) mdM false mix Go.Proofs.Tryz.func77 rfl (by simp [Go.Proofs.Tryz.f77]) Go.Proofs.Tryz.ntmps77 (by simp) (by kernel_rfl) (rs := [.tmp 2]) (tys := [3]) rfl rfl (by simp [finOK, A.ts, OWN, ownE, ownT]) (by simp [resOK, A.ts, OWN, ownE, ownT, DE]) ?_
  simp only [go_sem]
  repeat' (first
    | simp only [IJS]
    | (refine E.GB.use (fun h => ?_) (fun h => ?_) <;> (simp only [go_sem, h]) <;> (try simp only [HFS] at h))
    | (refine E.IX_map ?_ (fun hx => ?_); rotate_left; simp only [go_sem])
    | apply And.intro
    | omega
    | (rw [lastE_nil (by omega)]; done)
    | (rw [lastE_at (by omega)]; done)
    | fail)
theorem putI_drop : ∀ (l : List Int) (x : Int) (k : Nat), k ≤ l.length → (∀ y ∈ l.take k, y < x) → putI l x = l.take k ++ putI (l.drop k) x
  | l, x, 0, _, _ => by simp
  | [], x, k + 1, h, _ => by simp at h
  | y :: l, x, k + 1, h, hb => by
    have hy : y < x := hb y (by simp)
    have ih := putI_drop l x k (by simpa using h) fun z hz => hb z (by simp [hz])
    simp only [putI, if_pos hy, List.take_succ_cons, List.drop_succ_cons, List.cons_append, ih]
theorem put_s (l : List Int) (x : Int) (hl : l.length ≤ 1048576) : Fn Go.Proofs.Tryz.prog 144 [.c (.s false 1 (l.map eInt)), .c (.v (vi x))] [.c .d, .c .d] [.c (.s true 1 ((putI l x).map eInt))] := by
  refine E.Fn.ev (n := 47) mdM false mix Go.Proofs.Tryz.func144 rfl (by simp [Go.Proofs.Tryz.f144]) Go.Proofs.Tryz.ntmps144 (by simp) (by kernel_rfl) (rs := [.tmp 4]) (tys := [23]) rfl rfl (by simp [finOK, A.ts, OWN, ownE, ownT]) (by simp [resOK, A.ts, OWN, ownE, ownT, DE]) ?_
  simp only [go_sem]
  repeat' (first
    | simp only [IJS]
    | (refine E.GB.use (fun h => ?_) (fun h => ?_) <;> (simp only [go_sem, h]) <;> (try simp only [HFS] at h))
    | exact E.INDEP.mk2 (by kernel_rfl)
    | exact E.RK.mk (by kernel_rfl)
    | (refine E.IX_map ?_ (fun hx => ?_); rotate_left; simp only [go_sem])
    | (refine E.loopR (ι := Nat) 2 rfl (fun k => [(.s 5, .v (.c (.v (vi k))))]) [0, 1, 4, 20, 21, 22, 23, 24, 25, 26, 27, 28, 29, 30, 31, 32, 33, 34, 35, 36, 37, 38, 39, 40, 41, 42, 43, 44, 45, 46] [] [] (fun k => l.length - k) (fun k => k ≤ l.length ∧ ∀ y ∈ l.take k, y < x) mix (by kernel_rfl) 0 ?_ ?_ (fun k ⟨hk, hR⟩ => ?_); all_goals (try simp (maxSteps := 900000) only [go_sem]); all_goals (try dsimp only at hk hR))
    | (refine E.NEXT.use [] (k + 1) ?_ ?_ ?_; rotate_left 2; focus (simp (maxSteps := 900000) only [go_sem]; (repeat' (first | with_reducible rfl | exact E.RK.mk (by kernel_rfl) | apply And.intro | (push_cast; with_reducible rfl) | (refine E.int_c ?_; omega) | (simp only [go_sem]; done) | (rw [List.map_append]; rfl) | (simp; done) | (simp only [*]; done) | fail)); done))
    | apply And.intro
    | omega
    | (simp only [List.length_take, List.length_drop, List.length_append, List.length_set, List.length_cons, List.length_nil]; omega)
    | refine congrArg (List.map _) ?_
    | (simp; done)
    | (intro y hy; rw [E.take_at (by omega), List.mem_append] at hy; rcases hy with hy | hy; exact hR y hy; simp at hy; omega; done)
    | (rw [putI_drop l x k (by omega) hR, drop_at (by omega)]; simp only [putI]; rw [if_neg (by omega), if_pos (by omega), ← drop_at (by omega), List.take_append_drop]; done)
    | (rw [putI_drop l x k (by omega) hR, drop_at (by omega)]; simp only [putI]; rw [if_neg (by omega), if_neg (by omega)]; simp [eInt_eq]; done)
    | (rw [putI_drop l x k (by omega) hR, E.drop_end (by omega)]; simp [putI, eInt_eq]; done)
    | fail)
end Go.Abs

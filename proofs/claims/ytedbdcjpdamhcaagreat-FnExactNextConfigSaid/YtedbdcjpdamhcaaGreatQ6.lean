/- Contracts of functions of the program, over the abstract machine, and facts for them. No condition. -/
import Derived.Test.YtedbdcjpdamhcaaGreatFacts
import Derived.Test.YtedbdcjpdamhcaaGreatPure19
import Derived.Test.YtedbdcjpdamhcaaGreatQ10
import Derived.Test.YtedbdcjpdamhcaaGreatQ3
import Derived.Test.YtedbdcjpdamhcaaGreatQ4
import Derived.Test.YtedbdcjpdamhcaaGreatQ47
import Derived.Test.YtedbdcjpdamhcaaGreatQ8
set_option linter.unusedVariables false
set_option linter.unusedSimpArgs false
set_option linter.unnecessarySimpa false
set_option linter.constructorNameAsVariable false
set_option maxHeartbeats 4000000
set_option maxRecDepth 100000
namespace Go.Abs
open Go
attribute [local go_sem ↓] E.argsA_h E.wq_ret E.wq_req E.wq_bad E.wq_call E.wq_get E.wq_getO E.wq_getOs E.wq_getPs E.wq_fresh E.wq_anyNil E.wq_getR0 E.wq_getR E.wq_ixM E.wq_n E.wq_g E.wq_gn E.ev_skip E.ev_region E.ev_draw E.ev_seq E.ev_cond E.ev_block E.ev_exit E.ev_ret E.sq_n E.sq_e E.sq_r E.bl_n E.bl_e E.bl_r E.lp_n E.lp_e E.lp_r E.fk_n E.fk_r E.q_move E.q_assign E.q_pick E.q_bin E.q_binw E.q_un E.q_alloc E.q_box E.q_build E.q_buildS E.q_makeS E.q_load E.q_store E.q_nilCheck E.q_slice E.q_fieldAddr E.q_field E.q_indexAddr E.q_extract E.q_makeFunc E.q_call E.q_callT E.q_len E.q_append E.q_min E.q_max E.q_convert E.q_cap E.q_clear appendIM appendZM E.b_add E.b_sub E.b_mul E.b_eql E.b_neq E.b_lss E.b_leq E.b_gtr E.b_geq E.GO_tmp E.GO_int E.GO_bool E.GO_str E.GO_nil E.GO_func E.GOs_nil E.GOs_cons E.GPs_nil E.GPs_cons E.RW_nil E.RW_cons E.dstAt_0 E.dstAt_s E.keepL_nil E.keepL_s E.keepL_k E.rmN_nil E.rmN_cons E.memN_nil E.memN_cons E.memK_nil E.memK_cons E.ovl_nil E.ovl_kk E.ovl_sk E.ovl_ks E.ovl_ss ofL_s ofL_sk ofL_ks ofL_k ofL_nil E.CO_tmp E.CO_bool
attribute [local go_sem] E.RM_nil E.RM_cons E.kd_k E.sbr_eq E.s3_nil E.s3_s E.s3_k E.vr_c E.vr_a E.vr_p E.vr_q E.vr_t E.vr_f E.vr_u E.cr_r E.cr_v E.cr_b E.cr_n E.cr_u E.crs_nil E.crs_cons E.renK_nil E.renK_cons keysVs V.keys C.keys keysCs E.RG_nil E.RG_cons E.GV_v E.GB_true E.GB_false E.GX_b E.GG_t E.GG_f E.GG_u E.GU_some E.IX_0 E.IX_s E.CX_s E.FR_none E.EN_e E.GVB_b E.b_boolM E.b_nilM E.b_strM E.b_aggM
attribute [local go_sem] List.cons_append List.nil_append List.append_nil List.length_cons List.length_nil List.length_map List.length_append callM E.argsH_nil E.argsH_cons E.argH_c E.argH_a E.argH_f E.cellsH_nil E.cellsH_cons E.cellH_v E.cellH_b E.cellH_n E.cellH_nt E.cellH_u E.cellH_rt E.cellH_rf capsA capA callable backs backT resVs resV resC tupV lenV intV boolV getE getO entryL entryKs A.ts entryV entryC entryCs entryCap List.map_cons List.map_nil E.cut_n E.cut_r E.cutM plainL A.capOK szEs szE szT SZ whole toB toC List.drop_zero List.take_zero List.take_succ_cons List.drop_succ_cons resultsM resultM outM outM1 convs conv finAs finA finT finTs Int.toNat_natCast A.plain T.plain List.isEmpty_nil List.isEmpty_cons Bool.or_true Bool.true_or Bool.and_self List.getElem?_cons_zero List.getElem?_cons_succ Option.bind_some Option.bind_none Option.bind Nat.zero_add Nat.add_zero OWN BOR ONE SCAL DE ETA E.take_rest Int.toNat_zero E.take_map E.drop_map E.take_len1 List.take_length E.app_map Int.natCast_zero Int.sub_zero Int.toNat_sub partCells V.cells convsL appendM srcM E.scalEs_nil E.scalEs_cons E.oneEs_nil E.oneEs_cons List.all_cons List.all_nil T.one Bool.and_true gone ownEs ownE ownT borEs borE borT setRow splice List.set_cons_zero List.set_cons_succ optI getOpt sliceM ptrTo app_ofL T.isV Value.oneCell' fillC zeroC spliceC allV eqVs eqV minV maxV setAt setCell holed List.dropLast List.getLast?_singleton Option.getD_some Option.isSome_some Option.isSome_none Bool.and_false Bool.true_and Bool.false_and Option.map_some Option.map_none false_or true_or or_true rowAt cellAt E.constV_nil E.constV_int E.constV_bool E.constV_str E.setCell_set E.setCell_len setRow setAt List.dropLast_cons_cons List.dropLast_singleton List.getLast?_cons_cons
attribute [local go_sem_proc ↓] reduceIte
attribute [local go_sem_proc] Nat.reduceEqDiff reduceCtorEq Nat.reduceAdd Nat.reduceMul
attribute [local irreducible] E.argsH E.argH E.cellsH E.cellH E.GV E.GB E.GX E.GG E.GU E.IX E.CX E.RW E.FR E.EN E.CALL E.GO E.GOs E.GPs E.GVB E.KD E.RM E.RG E.CO E.WQ E.EV E.SQ E.BL E.LP E.FK E.S3 E.RK E.NEXT E.NQ E.INDEP
section
attribute [local go_sem] mdM toNat_pred
theorem isLease_no {l : Lse} (h : ((l.epoch == 0) && ((l.holder == 0) && (l.til == 0))) = true) : l = noLse := by
  cases l; simp_all [noLse]
theorem isLease_ne {l : Lse} (h : ((l.epoch == 0) && ((l.holder == 0) && (l.til == 0))) = false) : l ≠ noLse := by
  rintro rfl; simp [noLse] at h
theorem isLease_s (l : Lse) : Fn Go.Proofs.Tryz.prog 59 [.a (eLse l)] [.a [.d, .d, .d]] [.c (.v (.bool (isLease l)))] := by
  refine E.Fn.ev (n := 19) mdM false mix Go.Proofs.Tryz.func59 rfl (by simp [Go.Proofs.Tryz.f59]) Go.Proofs.Tryz.ntmps59 (by simp) (by kernel_rfl) (rs := [.tmp 2]) (tys := [4]) rfl rfl (by simp [finOK, A.ts, OWN, ownE, ownT]) (by simp [resOK, A.ts, OWN, ownE, ownT, DE]) ?_
  simp only [go_sem]
  repeat' (first
    | simp only [IJS]
    | (refine E.CALL.use (in_s _ _ _) ?_ <;> (try simp only [go_sem]))
    | (refine E.GB.use (fun h => ?_) (fun h => ?_) <;> (simp only [go_sem, h]) <;> (try simp only [HFS] at h))
    | apply And.intro
    | omega
    | (have q := isLease_no h; subst q; simp [isLease]; done)
    | (have := isLease_ne (by assumption); simp_all [isLease]; done)
    | fail)
theorem role_cases (c : Conf) (id : Int) : roleOf c id = 0 ∨ roleOf c id = 1 ∨ roleOf c id = 2 ∨ roleOf c id = 3 := by
  unfold roleOf; repeat' split
  all_goals simp
theorem validSrv_s (s : Srv) (id : Int) (h1 : s.conf.reps.length ≤ 1048576) (h2 : s.conf.wits.length ≤ 1048576) (h3 : s.log.length ≤ 1048576) (h4 : s.learned.length ≤ 1048576) : Fn Go.Proofs.Tryz.prog 61 [.a (eSrv false s), .c (.v (vi id))] [.a [.d, .d, .d, .d, .d, .d, .d, .d, .d, .d, .d, .d], .c .d] [.c (.v (.bool (validSrv s id)))] := by
  refine E.Fn.ev (n := 118) mdM false mix Go.Proofs.Tryz.func61 rfl (by simp [Go.Proofs.Tryz.f61]) Go.Proofs.Tryz.ntmps61 (by simp) (by kernel_rfl) (rs := [.tmp 4]) (tys := [4]) rfl rfl (by simp [finOK, A.ts, OWN, ownE, ownT]) (by simp [resOK, A.ts, OWN, ownE, ownT, DE]) ?_
  simp only [go_sem]
  repeat' (first
    | simp only [IJS]
    | (refine E.CALL.use (in_s _ _ _) ?_ <;> (try simp only [go_sem]))
    | (refine E.CALL.use (isLog_s _ ?_) ?_ <;> (try simp only [go_sem]))
    | (refine E.CALL.use (none_s _ ?_ ?_) ?_ <;> (try simp only [go_sem]))
    | (refine E.CALL.use (lastE_s _ ?_) ?_ <;> (try simp only [go_sem]))
    | (refine E.CALL.use (role_s _ _ ?_ ?_) ?_ <;> (try simp only [go_sem]))
    | (refine E.GB.use (fun h => ?_) (fun h => ?_) <;> (simp only [go_sem, h]) <;> (try simp only [HFS] at h))
    | exact E.INDEP.mk2 (by kernel_rfl)
    | apply And.intro
    | omega
    | (have q1 := inR_of (x := s.first) (by assumption); omega; done)
    | (simp_all [validSrv]; done)
    | (have q1 := inR_of (x := s.first) (by assumption); have q2 := inR_no h; have h9 : decide (s.first + s.log.length ≤ 16) = false := (by simp; omega); simp [validSrv, h9]; done)
    | (have h9 : decide (s.conf.epoch ≤ s.epoch) = false := (by simp; omega); simp [validSrv, h9, *]; done)
    | (have h9 : decide (lastE s.log ≤ s.conf.epoch) = false := (by simp; omega); simp [validSrv, h9, *]; done)
    | (have h9 : decide ((s.log.length : Int) ≤ 3) = false := (by simp; omega); simp [validSrv, isTail, h9, *]; done)
    | (have q2 := inR_of (x := s.first + s.log.length) (by assumption); have h8 : decide (s.first + s.log.length ≤ 16) = true := (by simp; omega); have q3 := role_cases s.conf id; simp [validSrv, h8, *]; rcases q3 with q3 | q3 | q3 | q3 <;> simp_all; done)
    | (have q2 := inR_of (x := s.first + s.log.length) (by assumption); have h8 : s.first + s.log.length ≤ 16 := (by omega); have q1 := inR_of (x := s.first) (by assumption); have h9 : inR s.first 0 (16 - s.log.length) = true := (by simp [inR]; omega); simp_all [validSrv, isTail]; done)
    | fail)
end
section
attribute [local go_sem] mdG_eq mdM toNat_pred setI List.length_set
def eLI (l : List Int) : List T := [.s false 1 (l.map eInt)]
theorem eLI_eq (l : List Int) : eLI l = [.s false 1 (l.map eInt)] := rfl
def eLE (l : List LEnt) : List T := [.s false 7 (l.map eLEnt)]
theorem eLE_eq (l : List LEnt) : eLE l = [.s false 7 (l.map eLEnt)] := rfl
theorem flat_at {α : Type} : ∀ {ls : List (List α)} {i : Nat}, i < ls.length → (ls.take i).flatten.length + (at' ls i).length ≤ ls.flatten.length
  | l :: ls, 0, h => by simp [at']
  | l :: ls, i + 1, h => by
    have := flat_at (ls := ls) (i := i) (by simpa using h)
    simp only [List.take_succ_cons, List.flatten_cons, List.length_append] at this ⊢
    simp only [at', List.getD_cons_succ] at this ⊢
    omega
theorem flat_take {α : Type} {ls : List (List α)} {i : Nat} (h : i < ls.length) : (ls.take (i + 1)).flatten = (ls.take i).flatten ++ at' ls i := by
  rw [E.take_at h, List.flatten_append]; simp
end
section
attribute [local go_sem] mdG_eq mdM toNat_pred setI List.length_set eLI_eq eLE_eq
theorem growI_c  (n : Int) (h0 : 0 ≤ n) (h1 : n ≤ 1048576) : Fn Go.Proofs.Tryz.prog 127 [.c (.v (.slice none 0 0)), .c (.v (vi n))] [.c .d, .c .d] [.c (.s true 1 ((([] : List Int)).map eInt))] := by
  refine E.Fn.evCN (n := 27) mdG false mix Go.Proofs.Tryz.func127 rfl (by simp [Go.Proofs.Tryz.f127]) Go.Proofs.Tryz.ntmps127 (by simp) (by kernel_rfl) (t := 4) (ty := 23) (sz := 1) (r := (([] : List Int)).map eInt) (al := [.c (.v (vi n))]) (fin := [.c .d]) rfl rfl ki23 rfl (by simp [OWN, ownEs]) ?_
  simp only [go_sem]
  repeat' (first
    | simp only [IJS]
    | (refine E.GB.use (fun h => ?_) (fun h => ?_) <;> (try (exfalso; simp only [HFS] at h; omega)) <;> (simp only [go_sem, h]) <;> (try simp only [HFS] at h))
    | apply And.intro
    | omega
    | fail)
theorem concatI_c  (ls : List (List Int)) (l0 : List Int) (he : ls.flatten = l0) (hls : ls.length ≤ 1048576) (hl : ls.flatten.length ≤ 1048576) : Fn Go.Proofs.Tryz.prog 117 [.c (.s false 1 (ls.map eLI))] [.c .d] [.c (.s true 1 ((l0).map eInt))] := by
  refine E.Fn.ev (n := 36) mdG false mix Go.Proofs.Tryz.func117 rfl (by simp [Go.Proofs.Tryz.f117]) Go.Proofs.Tryz.ntmps117 (by simp) (by kernel_rfl) (rs := [.tmp 2]) (tys := [23]) rfl rfl (by simp [finOK, A.ts, OWN, ownE, ownT]) (by simp [resOK, A.ts, OWN, ownE, ownT, DE]) ?_
  simp only [go_sem]
  repeat' (first
    | simp only [IJS]
    | (refine E.CALL.use (growI_c _ ?_ ?_) ?_ <;> (try simp only [go_sem]))
    | (refine E.GB.use (fun h => ?_) (fun h => ?_) <;> (try (exfalso; simp only [HFS] at h; omega)) <;> (simp only [go_sem, h]) <;> (try simp only [HFS] at h))
    | exact E.RK.mk (by kernel_rfl)
    | (refine E.IX_map ?_ (fun hx => ?_); rotate_left; simp only [go_sem])
    | (refine E.loopR (ι := Nat) 3 rfl (fun i => [(.s 11, .v (.c (.v (vi i)))), (.s 3, .v (.c (.v (vi (ls.take i).flatten.length))))]) [0, 2, 6, 8, 9, 10, 23, 24, 25, 26, 27, 28, 29, 30, 31, 32, 33, 34, 35] [] [] (fun i => ls.length - i) (fun i => i ≤ ls.length ∧ 0 = 0) mix (by kernel_rfl) 0 ?_ ?_ (fun i ⟨hi, hz⟩ => ?_); all_goals (try simp (maxSteps := 900000) only [go_sem]); all_goals (try dsimp only at hi hz))
    | (refine E.NEXT.use [] (i + 1) ?_ ?_ ?_; rotate_left 2; focus (simp (maxSteps := 900000) only [go_sem]; (repeat' (first | with_reducible rfl | exact E.RK.mk (by kernel_rfl) | apply And.intro | (push_cast; with_reducible rfl) | (refine E.int_c ?_; omega) | (simp only [go_sem]; done) | (rw [List.map_append]; rfl) | (simp; done) | (simp only [*]; done) | (refine E.int_c ?_; rw [flat_take (by omega)]; simp; done) | fail)); done))
    | (refine E.loopR (ι := Nat × List Int) 11 rfl (fun ⟨i, out⟩ => [(.s 27, .v (.c (.v (vi i)))), (.s 6, .v (.c (.r (24, 0) 0 [] 0 (out).length))), (.k (24, 0), .e ⟨0, 1, (out).map eInt⟩)]) [2, 25, 26, 35] [(24, 0)] [] (fun ⟨i, out⟩ => ls.length - i) (fun ⟨i, out⟩ => i ≤ ls.length ∧ out = (ls.take i).flatten) mix (by kernel_rfl) (0, []) ?_ ?_ (fun ⟨i, out⟩ ⟨hi, ho⟩ => ?_); all_goals (try simp (maxSteps := 900000) only [go_sem]); all_goals (try dsimp only at hi ho))
    | (refine E.NEXT.use [((24, 0), (33, 0))] (i + 1, out ++ at' ls i) ?_ ?_ ?_; rotate_left 2; focus (simp (maxSteps := 900000) only [go_sem]; (repeat' (first | with_reducible rfl | exact E.RK.mk (by kernel_rfl) | apply And.intro | (push_cast; with_reducible rfl) | (refine E.int_c ?_; omega) | (simp only [go_sem]; done) | (rw [List.map_append]; rfl) | (simp; done) | (simp only [*]; done) | (refine E.int_c ?_; rw [flat_take (by omega)]; simp; done) | fail)); done))
    | apply And.intro
    | omega
    | refine congrArg (List.map _) ?_
    | (subst ho; rw [List.take_of_length_le (by omega), he]; done)
    | (have := flat_at (ls := ls) (i := i) (by omega); omega; done)
    | (have := flat_at (ls := ls) (i := i) (by omega); rw [← ho] at this; omega; done)
    | (rw [List.take_of_length_le (by omega)]; omega; done)
    | (subst ho; (try dsimp only); rw [flat_take (by omega)]; done)
    | (simp; done)
    | fail)
end
section
attribute [local go_sem] mdG_eq mdM toNat_pred setI List.length_set mdL_eq E.b_rem decE_self decN_self mkL_len mkL_at List.set_set E.rawCs_nil E.rawCs_s E.rawCs_v E.take_s markI_len markE_len
theorem markSs_l (l : List Srv) (k : Int) (hl : l.length ≤ 1048576) (hb : ∀ x ∈ l, SrvB x) (hk : 0 ≤ k) (hk2 : k ≤ 144115188075855872) : Fn Go.Proofs.Tryz.prog 50 [.c (.s true 12 (l.map (eSrv true))), .c (.v (vi k))] [.c (.s true 12 ((markSs l k).map (eSrv true))), .c .d] [.c (.v (vi (endSs l k)))] := by
  refine E.Fn.ev (n := 105) mdL false mix Go.Proofs.Tryz.func50 rfl (by simp [Go.Proofs.Tryz.f50]) Go.Proofs.Tryz.ntmps50 (by simp) (by kernel_rfl) (rs := [.tmp 4]) (tys := [3]) rfl rfl (by simp [finOK, A.ts, OWN, ownE, ownT]) (by simp [resOK, A.ts, OWN, ownE, ownT, DE]) ?_
  simp only [go_sem]
  repeat' (first
    | simp only [IJS]
    | (refine E.CALL.use (markI_l _ _ ?_ ?_ ?_) ?_ <;> (try simp only [go_sem]))
    | (refine E.CALL.use (markE_l _ _ ?_ ?_ ?_) ?_ <;> (try simp only [go_sem]))
    | (refine E.GB.use (fun h => ?_) (fun h => ?_) <;> (simp only [go_sem, h]) <;> (try simp only [HFS] at h))
    | exact E.RK.mk (by kernel_rfl)
    | (refine E.IX_map ?_ (fun hx => ?_); rotate_left; simp only [go_sem])
    | (refine E.IX_set ?_ ?_; rotate_left; simp only [go_sem])
    | (refine E.loopR (ι := Nat × Nat) 2 rfl (fun ⟨i, v⟩ => [(.s 5, .v (.c (.v (vi i)))), (.s 1, .v (.c (.v (vi (mkK (endS) l k i))))), (.k (0, 0), .e ⟨v, 12, (mkL (srvK) (endS) l k i).map (eSrv true)⟩)]) [0, 4, 104] [(0, 0)] [] (fun ⟨i, v⟩ => l.length - i) (fun ⟨i, v⟩ => i ≤ l.length ∧ 0 ≤ mkK (endS) l k i) mix (by kernel_rfl) (0, 0) ?_ ?_ (fun ⟨i, v⟩ ⟨hi, hk0⟩ => ?_); all_goals (try simp (maxSteps := 900000) only [go_sem]); all_goals (try dsimp only at hi hk0))
    | (refine E.NEXT.use [] (i + 1, v + 4) ?_ ?_ ?_; rotate_left 2; focus (simp (maxSteps := 900000) only [go_sem]; (repeat' (first | with_reducible rfl | exact E.RK.mk (by kernel_rfl) | apply And.intro | (push_cast; with_reducible rfl) | (refine E.int_c ?_; omega) | (simp only [go_sem]; done) | (rw [List.map_append]; rfl) | (simp; done) | (simp only [*]; done) | (rfl; done) | (rw [mkL, List.map_set] <;> rfl; done) | fail)); done))
    | (have hw : i < (List.map (eSrv true) (mkL (srvK) (endS) l k i)).length := (by simp only [List.length_map, mkL_len]; omega); simp only [List.getElem?_set_self hw, go_sem])
    | apply And.intro
    | omega
    | refine congrArg (List.map _) ?_
    | (have e : i = l.length := (by omega); subst e; rw [mkL_S]; done)
    | (have e : i = l.length := (by omega); subst e; rw [mkK_S]; done)
    | (exact hk; done)
    | (exact (hb _ (E.at_mem (by omega))).conf.r; done)
    | (exact (hb _ (E.at_mem (by omega))).conf.w; done)
    | (exact (hb _ (E.at_mem (by omega))).log; done)
    | (exact (hb _ (E.at_mem (by omega))).learned; done)
    | (rfl; done)
    | (have g1 := mkK_Sle hb k i (by omega); have g2 := mkK_Sge l k i; have g3 := hb (at' l i) (E.at_mem (by omega)); have g4 := g3.conf.r; have g5 := g3.conf.w; have g6 := g3.log; have g7 := g3.learned; have g8 := mkK_Sge l k (i + 1); omega; done)
    | fail)
end
end Go.Abs

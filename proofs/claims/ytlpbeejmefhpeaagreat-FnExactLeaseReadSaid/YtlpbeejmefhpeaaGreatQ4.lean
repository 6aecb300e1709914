/- Contracts of functions of the program, over the abstract machine, and facts for them. No condition. -/
import Derived.Test.YtlpbeejmefhpeaaGreatFacts
import Derived.Test.YtlpbeejmefhpeaaGreatPure26
import Derived.Test.YtlpbeejmefhpeaaGreatQ3
import Derived.Test.YtlpbeejmefhpeaaGreatQ8
set_option linter.unusedVariables false
set_option linter.unusedSimpArgs false
set_option linter.unnecessarySimpa false
set_option linter.constructorNameAsVariable false
set_option maxHeartbeats 4000000
set_option maxRecDepth 100000
namespace Go.Abs
open Go
attribute [local go_sem ↓] E.argsA_h E.wq_ret E.wq_req E.wq_bad E.wq_call E.wq_get E.wq_getO E.wq_getOs E.wq_getPs E.wq_fresh E.wq_anyNil E.wq_getR0 E.wq_getR E.wq_ixM E.wq_n E.wq_g E.wq_gn E.ev_skip E.ev_region E.ev_draw E.ev_seq E.ev_cond E.ev_block E.ev_exit E.ev_ret E.sq_n E.sq_e E.sq_r E.bl_n E.bl_e E.bl_r E.lp_n E.lp_e E.lp_r E.fk_n E.fk_r E.q_move E.q_assign E.q_pick E.q_bin E.q_binw E.q_un E.q_alloc E.q_box E.q_build E.q_buildS E.q_makeS E.q_load E.q_store E.q_nilCheck E.q_slice E.q_fieldAddr E.q_field E.q_indexAddr E.q_extract E.q_makeFunc E.q_call E.q_callT E.q_len E.q_append E.q_min E.q_max E.q_convert E.q_cap E.q_clear appendIM appendZM E.b_add E.b_sub E.b_mul E.b_eql E.b_neq E.b_lss E.b_leq E.b_gtr E.b_geq E.GO_tmp E.GO_int E.GO_bool E.GO_str E.GO_nil E.GO_func E.GOs_nil E.GOs_cons E.GPs_nil E.GPs_cons E.RW_nil E.RW_cons E.dstAt_0 E.dstAt_s E.keepL_nil E.keepL_s E.keepL_k E.rmN_nil E.rmN_cons E.memN_nil E.memN_cons E.memK_nil E.memK_cons E.ovl_nil E.ovl_kk E.ovl_sk E.ovl_ks E.ovl_ss ofL_s ofL_sk ofL_ks ofL_k ofL_nil E.CO_tmp E.CO_bool
attribute [local go_sem] E.RM_nil E.RM_cons E.kd_k E.sbr_eq E.s3_nil E.s3_s E.s3_k E.vr_c E.vr_a E.vr_p E.vr_q E.vr_t E.vr_f E.vr_u E.cr_r E.cr_v E.cr_b E.cr_n E.cr_u E.crs_nil E.crs_cons E.renK_nil E.renK_cons keysVs V.keys C.keys keysCs E.RG_nil E.RG_cons E.GV_v E.GB_true E.GB_false E.GX_b E.GG_t E.GG_f E.GG_u E.GU_some E.IX_0 E.IX_s E.CX_s E.FR_none E.EN_e E.GVB_b E.b_boolM E.b_nilM E.b_strM E.b_aggM
attribute [local go_sem] List.cons_append List.nil_append List.append_nil List.length_cons List.length_nil List.length_map List.length_append callM E.argsH_nil E.argsH_cons E.argH_c E.argH_a E.argH_f E.cellsH_nil E.cellsH_cons E.cellH_v E.cellH_b E.cellH_n E.cellH_nt E.cellH_u E.cellH_rt E.cellH_rf capsA capA callable backs backT resVs resV resC tupV lenV intV boolV getE getO entryL entryKs A.ts entryV entryC entryCs entryCap List.map_cons List.map_nil E.cut_n E.cut_r E.cutM plainL A.lastOK T.lastOK Bool.false_or A.capOK szEs szE szT SZ whole toB toC List.drop_zero List.take_zero List.take_succ_cons List.drop_succ_cons resultsM resultM outM outM1 convs conv finAs finA finT finTs Int.toNat_natCast A.plain T.plain List.isEmpty_nil List.isEmpty_cons Bool.or_true Bool.true_or Bool.and_self List.getElem?_cons_zero List.getElem?_cons_succ Option.bind_some Option.bind_none Option.bind Nat.zero_add Nat.add_zero OWN BOR ONE SCAL DE ETA E.take_rest Int.toNat_zero E.take_map E.drop_map E.take_len1 List.take_length E.app_map Int.natCast_zero Int.sub_zero Int.toNat_sub partCells V.cells convsL appendM srcM E.scalEs_nil E.scalEs_cons E.oneEs_nil E.oneEs_cons List.all_cons List.all_nil T.one Bool.and_true gone ownEs ownE ownT borEs borE borT setRow splice List.set_cons_zero List.set_cons_succ optI getOpt sliceM ptrTo app_ofL T.isV Value.oneCell' fillC zeroC spliceC allV eqVs eqV minV maxV setAt setCell holed List.dropLast List.getLast?_singleton Option.getD_some Option.isSome_some Option.isSome_none Bool.and_false Bool.true_and Bool.false_and Option.map_some Option.map_none false_or true_or or_true rowAt cellAt E.constV_nil E.constV_int E.constV_bool E.constV_str E.setCell_set E.setCell_len setRow setAt List.dropLast_cons_cons List.dropLast_singleton List.getLast?_cons_cons
attribute [local go_sem_proc ↓] reduceIte
attribute [local go_sem_proc] Nat.reduceEqDiff reduceCtorEq Nat.reduceAdd Nat.reduceMul
attribute [local irreducible] E.argsH E.argH E.cellsH E.cellH E.GV E.GB E.GX E.GG E.GU E.IX E.CX E.RW E.FR E.EN E.CALL E.GO E.GOs E.GPs E.GVB E.KD E.RM E.RG E.CO E.WQ E.EV E.SQ E.BL E.LP E.FK E.S3 E.RK E.NEXT E.NQ E.INDEP
section
attribute [local go_sem] mdM toNat_pred
theorem putI_len : ∀ (l : List Int) (x : Int), (putI l x).length ≤ l.length + 1
  | [], x => by simp [putI]
  | y :: l, x => by
    have := putI_len l x
    simp only [putI]
    split
    · simpa using this
    · split <;> simp
theorem foldl_filter_one (p : Int → Bool) (x : Int) (xs s : List Int) : ((x :: xs).filter p).foldl putI s = (xs.filter p).foldl putI (if p x then putI s x else s) := by
  by_cases h : p x = true
  · simp [List.filter_cons_of_pos h, h]
  · simp [List.filter_cons_of_neg h, h]
theorem common_s (a : List Int) (b : List Int) (ha : a.length ≤ 1048576) (hb : b.length ≤ 1048576) : Fn Go.Proofs.Tryz.prog 148 [.c (.s false 1 (a.map eInt)), .c (.s false 1 (b.map eInt))] [.c .d, .c .d] [.c (.s true 1 ((common a b).map eInt))] := by
  refine E.Fn.ev (n := 27) mdM false mix Go.Proofs.Tryz.func148 rfl (by simp [Go.Proofs.Tryz.f148]) Go.Proofs.Tryz.ntmps148 (by simp) (by kernel_rfl) (rs := [.tmp 4]) (tys := [23]) rfl rfl (by simp [finOK, A.ts, OWN, ownE, ownT]) (by simp [resOK, A.ts, OWN, ownE, ownT, DE]) ?_
  simp only [go_sem]
  repeat' (first
    | simp only [IJS]
    | (refine E.CALL.use (has_s _ _ ?_) ?_ <;> (try simp only [go_sem]))
    | (refine E.CALL.use (put_s _ _ ?_) ?_ <;> (try simp only [go_sem]))
    | (refine E.GB.use (fun h => ?_) (fun h => ?_) <;> (simp only [go_sem, h]) <;> (try simp only [HFS] at h))
    | exact E.RK.mk (by kernel_rfl)
    | (refine E.IX_map ?_ (fun hx => ?_); rotate_left; simp only [go_sem])
    | (refine E.loopR (ι := Nat × List Int) 3 rfl (fun ⟨i, out⟩ => [(.s 6, .v (.c (.v (vi i)))), (.s 5, .v (.c (.r (7, 0) 0 [] 0 (out).length))), (.k (7, 0), .e ⟨0, 1, (out).map eInt⟩)]) [0, 1, 4, 26] [(7, 0)] [] (fun ⟨i, out⟩ => a.length - i) (fun ⟨i, out⟩ => i ≤ a.length ∧ out.length ≤ i ∧ ((a.drop i).filter (fun x => b.contains x)).foldl putI out = common a b) mix (by kernel_rfl) (0, []) ?_ ?_ (fun ⟨i, out⟩ ⟨hi, ho, hR⟩ => ?_); all_goals (try simp (maxSteps := 900000) only [go_sem]); all_goals (try dsimp only at hi ho hR))
    | (refine E.NEXT.use [((7, 0), (25, 0))] (i + 1, putI out (at' a i)) ?_ ?_ ?_; rotate_left 2; focus (simp (maxSteps := 900000) only [go_sem]; (repeat' (first | with_reducible rfl | exact E.RK.mk (by kernel_rfl) | apply And.intro | (push_cast; with_reducible rfl) | (refine E.int_c ?_; omega) | (simp only [go_sem]; done) | (rw [List.map_append]; rfl) | (simp; done) | (simp only [*]; done) | fail)); done))
    | (refine E.NEXT.use [] (i + 1, out) ?_ ?_ ?_; rotate_left 2; focus (simp (maxSteps := 900000) only [go_sem]; (repeat' (first | with_reducible rfl | exact E.RK.mk (by kernel_rfl) | apply And.intro | (push_cast; with_reducible rfl) | (refine E.int_c ?_; omega) | (simp only [go_sem]; done) | (rw [List.map_append]; rfl) | (simp; done) | (simp only [*]; done) | fail)); done))
    | apply And.intro
    | omega
    | refine congrArg (List.map _) ?_
    | (rw [drop_at (l := a) (i := i) (by omega)] at hR; rw [foldl_filter_one] at hR; simp only [h, if_true, if_false, Bool.false_eq_true, Bool.not_true, Bool.not_false] at hR; exact hR; done)
    | (rw [E.drop_end (l := a) (i := i) (by omega)] at hR; simpa using hR; done)
    | (rfl; done)
    | (have := putI_len out (at' a i); omega; done)
    | fail)
theorem unite_s (a : List Int) (b : List Int) (hab : a.length + b.length ≤ 1048576) : Fn Go.Proofs.Tryz.prog 152 [.c (.s false 1 (a.map eInt)), .c (.s false 1 (b.map eInt))] [.c .d, .c .d] [.c (.s true 1 ((unite a b).map eInt))] := by
  refine E.Fn.ev (n := 34) mdM false mix Go.Proofs.Tryz.func152 rfl (by simp [Go.Proofs.Tryz.f152]) Go.Proofs.Tryz.ntmps152 (by simp) (by kernel_rfl) (rs := [.tmp 4]) (tys := [23]) rfl rfl (by simp [finOK, A.ts, OWN, ownE, ownT]) (by simp [resOK, A.ts, OWN, ownE, ownT, DE]) ?_
  simp only [go_sem]
  repeat' (first
    | simp only [IJS]
    | (refine E.CALL.use (put_s _ _ ?_) ?_ <;> (try simp only [go_sem]))
    | (refine E.GB.use (fun h => ?_) (fun h => ?_) <;> (simp only [go_sem, h]) <;> (try simp only [HFS] at h))
    | exact E.RK.mk (by kernel_rfl)
    | (refine E.IX_map ?_ (fun hx => ?_); rotate_left; simp only [go_sem])
    | (refine E.loopR (ι := Nat × List Int) 3 rfl (fun ⟨i, out⟩ => [(.s 6, .v (.c (.v (vi i)))), (.s 5, .v (.c (.r (8, 0) 0 [] 0 (out).length))), (.k (8, 0), .e ⟨0, 1, (out).map eInt⟩)]) [0, 1, 4, 7, 21, 22, 23, 24, 25, 26, 27, 28, 29, 30, 31, 32, 33] [(8, 0)] [] (fun ⟨i, out⟩ => a.length - i) (fun ⟨i, out⟩ => i ≤ a.length ∧ out.length ≤ i ∧ (a.drop i).foldl putI out = a.foldl putI []) mix (by kernel_rfl) (0, []) ?_ ?_ (fun ⟨i, out⟩ ⟨hi, ho, hR⟩ => ?_); all_goals (try simp (maxSteps := 900000) only [go_sem]); all_goals (try dsimp only at hi ho hR))
    | (refine E.NEXT.use [((8, 0), (20, 0))] (i + 1, putI out (at' a i)) ?_ ?_ ?_; rotate_left 2; focus (simp (maxSteps := 900000) only [go_sem]; (repeat' (first | with_reducible rfl | exact E.RK.mk (by kernel_rfl) | apply And.intro | (push_cast; with_reducible rfl) | (refine E.int_c ?_; omega) | (simp only [go_sem]; done) | (rw [List.map_append]; rfl) | (simp; done) | (simp only [*]; done) | fail)); done))
    | (refine E.loopR (ι := Nat × List Int) 7 rfl (fun ⟨i, out2⟩ => [(.s 7, .v (.c (.v (vi i)))), (.s 5, .v (.c (.r (8, 0) 0 [] 0 (out2).length))), (.k (8, 0), .e ⟨0, 1, (out2).map eInt⟩)]) [1, 4, 33] [(8, 0)] [] (fun ⟨i, out2⟩ => b.length - i) (fun ⟨i, out2⟩ => i ≤ b.length ∧ out2.length ≤ a.length + i ∧ (b.drop i).foldl putI out2 = unite a b) mix (by kernel_rfl) (0, out) ?_ ?_ (fun ⟨i, out2⟩ ⟨hi, ho2, hR2⟩ => ?_); all_goals (try simp (maxSteps := 900000) only [go_sem]); all_goals (try dsimp only at hi ho2 hR2))
    | (refine E.NEXT.use [((8, 0), (32, 0))] (i + 1, putI out2 (at' b i)) ?_ ?_ ?_; rotate_left 2; focus (simp (maxSteps := 900000) only [go_sem]; (repeat' (first | with_reducible rfl | exact E.RK.mk (by kernel_rfl) | apply And.intro | (push_cast; with_reducible rfl) | (refine E.int_c ?_; omega) | (simp only [go_sem]; done) | (rw [List.map_append]; rfl) | (simp; done) | (simp only [*]; done) | fail)); done))
    | apply And.intro
    | omega
    | refine congrArg (List.map _) ?_
    | (rw [drop_at (l := a) (i := i) (by omega)] at hR; exact hR; done)
    | (rw [E.drop_end (l := a) (i := i) (by omega)] at hR; simp only [List.foldl_nil] at hR; simp [unite, ← hR]; done)
    | (rw [drop_at (l := b) (i := i) (by omega)] at hR2; exact hR2; done)
    | (rw [E.drop_end (l := b) (i := i) (by omega)] at hR2; simpa using hR2; done)
    | (have := putI_len out (at' a i); omega; done)
    | (have := putI_len out2 (at' b i); omega; done)
    | fail)
theorem areSides_s (l : List Int) (hl : l.length ≤ 1048576) : Fn Go.Proofs.Tryz.prog 102 [.c (.s false 1 (l.map eInt))] [.c .d] [.c (.v (.bool (areSides l)))] := by
  refine E.Fn.ev (n := 19) mdM false mix Go.Proofs.Tryz.func102 rfl (by simp [Go.Proofs.Tryz.f102]) Go.Proofs.Tryz.ntmps102 (by simp) (by kernel_rfl) (rs := [.tmp 2]) (tys := [4]) rfl rfl (by simp [finOK, A.ts, OWN, ownE, ownT]) (by simp [resOK, A.ts, OWN, ownE, ownT, DE]) ?_
  simp only [go_sem]
  repeat' (first
    | simp only [IJS]
    | (refine E.CALL.use (in_s _ _ _) ?_ <;> (try simp only [go_sem]))
    | (refine E.GB.use (fun h => ?_) (fun h => ?_) <;> (simp only [go_sem, h]) <;> (try simp only [HFS] at h))
    | exact E.RK.mk (by kernel_rfl)
    | (refine E.IX_map ?_ (fun hx => ?_); rotate_left; simp only [go_sem])
    | (refine E.loopR (ι := Nat) 2 rfl (fun i => [(.s 3, .v (.c (.v (vi i))))]) [0, 16, 17, 18] [] [] (fun i => (l).length - i) (fun i => i ≤ (l).length ∧ (((l.length : Int) == 5) && (l.drop i).all side) = areSides l) mix (by kernel_rfl) 0 ?_ ?_ (fun i ⟨hi, hR⟩ => ?_); all_goals (try simp (maxSteps := 900000) only [go_sem]); all_goals (try dsimp only at hi hR))
    | (refine E.NEXT.use [] (i + 1) ?_ ?_ ?_; rotate_left 2; focus (simp (maxSteps := 900000) only [go_sem]; (repeat' (first | with_reducible rfl | exact E.RK.mk (by kernel_rfl) | apply And.intro | (push_cast; with_reducible rfl) | (refine E.int_c ?_; omega) | (simp only [go_sem]; done) | (rw [List.map_append]; rfl) | (simp; done) | (simp only [*]; done) | fail)); done))
    | apply And.intro
    | omega
    | (rw [drop_at (l := l) (i := i) (by omega)] at hR; rw [← hR]; simp [side, h]; done)
    | (rw [E.drop_end (l := l) (i := i) (by omega)] at hR; rw [← hR]; simp; done)
    | (rfl; done)
    | fail)
def okPlc (p : Plc) : Bool := inR p.rack 0 9 && inR p.cap 0 9 && inR p.load 0 99
theorem arePlc_s (l : List Plc) (hl : l.length ≤ 1048576) : Fn Go.Proofs.Tryz.prog 105 [.c (.s false 3 (l.map ePlc))] [.c .d] [.c (.v (.bool (arePlaces l)))] := by
  refine E.Fn.ev (n := 38) mdM false mix Go.Proofs.Tryz.func105 rfl (by simp [Go.Proofs.Tryz.f105]) Go.Proofs.Tryz.ntmps105 (by simp) (by kernel_rfl) (rs := [.tmp 2]) (tys := [4]) rfl rfl (by simp [finOK, A.ts, OWN, ownE, ownT]) (by simp [resOK, A.ts, OWN, ownE, ownT, DE]) ?_
  simp only [go_sem]
  repeat' (first
    | simp only [IJS]
    | (refine E.CALL.use (in_s _ _ _) ?_ <;> (try simp only [go_sem]))
    | (refine E.GB.use (fun h => ?_) (fun h => ?_) <;> (simp only [go_sem, h]) <;> (try simp only [HFS] at h))
    | exact E.RK.mk (by kernel_rfl)
    | (refine E.IX_map ?_ (fun hx => ?_); rotate_left; simp only [go_sem])
    | (refine E.loopR (ι := Nat) 2 rfl (fun i => [(.s 3, .v (.c (.v (vi i))))]) [0, 35, 36, 37] [] [] (fun i => (l).length - i) (fun i => i ≤ (l).length ∧ (((l.length : Int) == 5) && (l.drop i).all fun p => inR p.rack 0 9 && inR p.cap 0 9 && inR p.load 0 99) = arePlaces l) mix (by kernel_rfl) 0 ?_ ?_ (fun i ⟨hi, hR⟩ => ?_); all_goals (try simp (maxSteps := 900000) only [go_sem]); all_goals (try dsimp only at hi hR))
    | (refine E.NEXT.use [] (i + 1) ?_ ?_ ?_; rotate_left 2; focus (simp (maxSteps := 900000) only [go_sem]; (repeat' (first | with_reducible rfl | exact E.RK.mk (by kernel_rfl) | apply And.intro | (push_cast; with_reducible rfl) | (refine E.int_c ?_; omega) | (simp only [go_sem]; done) | (rw [List.map_append]; rfl) | (simp; done) | (simp only [*]; done) | fail)); done))
    | apply And.intro
    | omega
    | (rw [drop_at (l := l) (i := i) (by omega)] at hR; rw [← hR]; simp [*]; done)
    | (rw [E.drop_end (l := l) (i := i) (by omega)] at hR; rw [← hR]; simp; done)
    | (rfl; done)
    | fail)
theorem validConf_s (c : Conf) (h1 : c.reps.length ≤ 1048576) (h2 : c.wits.length ≤ 1048576) : Fn Go.Proofs.Tryz.prog 97 [.a (eConf false c)] [.a [.d, .d, .d, .d]] [.c (.v (.bool (validConf c)))] := by
  refine E.Fn.ev (n := 32) mdM false mix Go.Proofs.Tryz.func97 rfl (by simp [Go.Proofs.Tryz.f97]) Go.Proofs.Tryz.ntmps97 (by simp) (by kernel_rfl) (rs := [.tmp 2]) (tys := [4]) rfl rfl (by simp [finOK, A.ts, OWN, ownE, ownT]) (by simp [resOK, A.ts, OWN, ownE, ownT, DE]) ?_
  simp only [go_sem]
  repeat' (first
    | simp only [IJS]
    | (refine E.CALL.use (in_s _ _ _) ?_ <;> (try simp only [go_sem]))
    | (refine E.CALL.use (areSrv_s _ ?_) ?_ <;> (try simp only [go_sem]))
    | (refine E.CALL.use (has_s _ _ ?_) ?_ <;> (try simp only [go_sem]))
    | (refine E.CALL.use (common_s _ _ ?_ ?_) ?_ <;> (try simp only [go_sem]))
    | (refine E.GB.use (fun h => ?_) (fun h => ?_) <;> (simp only [go_sem, h]) <;> (try simp only [HFS] at h))
    | apply And.intro
    | omega
    | (simp_all [validConf]; done)
    | fail)
theorem role_s (c : Conf) (id : Int) (h1 : c.reps.length ≤ 1048576) (h2 : c.wits.length ≤ 1048576) : Fn Go.Proofs.Tryz.prog 51 [.a (eConf false c), .c (.v (vi id))] [.a [.d, .d, .d, .d], .c .d] [.c (.v (vi (roleOf c id)))] := by
  refine E.Fn.ev (n := 24) mdM false mix Go.Proofs.Tryz.func51 rfl (by simp [Go.Proofs.Tryz.f51]) Go.Proofs.Tryz.ntmps51 (by simp) (by kernel_rfl) (rs := [.tmp 4]) (tys := [3]) rfl rfl (by simp [finOK, A.ts, OWN, ownE, ownT]) (by simp [resOK, A.ts, OWN, ownE, ownT, DE]) ?_
  simp only [go_sem]
  repeat' (first
    | simp only [IJS]
    | (refine E.CALL.use (validConf_s _ ?_ ?_) ?_ <;> (try simp only [go_sem]))
    | (refine E.CALL.use (has_s _ _ ?_) ?_ <;> (try simp only [go_sem]))
    | (refine E.GB.use (fun h => ?_) (fun h => ?_) <;> (simp only [go_sem, h]) <;> (try simp only [HFS] at h))
    | apply And.intro
    | omega
    | (simp_all [roleOf]; done)
    | fail)
theorem members_s (c : Conf) (h1 : c.reps.length ≤ 1048576) (h2 : c.wits.length ≤ 1048576) : Fn Go.Proofs.Tryz.prog 115 [.a (eConf false c)] [.a [.d, .d, .d, .d]] [.c (.s true 1 ((membersOf c).map eInt))] := by
  refine E.Fn.ev (n := 12) mdM false mix Go.Proofs.Tryz.func115 rfl (by simp [Go.Proofs.Tryz.f115]) Go.Proofs.Tryz.ntmps115 (by simp) (by kernel_rfl) (rs := [.tmp 2]) (tys := [23]) rfl rfl (by simp [finOK, A.ts, OWN, ownE, ownT]) (by simp [resOK, A.ts, OWN, ownE, ownT, DE]) ?_
  simp only [go_sem]
  repeat' (first
    | simp only [IJS]
    | (refine E.CALL.use (validConf_s _ ?_ ?_) ?_ <;> (try simp only [go_sem]))
    | (refine E.CALL.use (unite_s _ _ ?_) ?_ <;> (try simp only [go_sem]))
    | (refine E.GB.use (fun h => ?_) (fun h => ?_) <;> (simp only [go_sem, h]) <;> (try simp only [HFS] at h))
    | apply And.intro
    | omega
    | refine congrArg (List.map _) ?_
    | (simp [membersOf, *]; done)
    | (have q := validConf_of (by assumption); have := areServers_len q.2.2.1; have := areServers_len q.2.2.2.1; omega; done)
    | fail)
theorem sameSide_s (l : List Int) (a : Int) (b : Int) (hl : l.length ≤ 1048576) : Fn Go.Proofs.Tryz.prog 186 [.c (.s false 1 (l.map eInt)), .c (.v (vi a)), .c (.v (vi b))] [.c .d, .c .d, .c .d] [.c (.v (.bool (sameSide l a b)))] := by
  refine E.Fn.ev (n := 28) mdM false mix Go.Proofs.Tryz.func186 rfl (by simp [Go.Proofs.Tryz.f186]) Go.Proofs.Tryz.ntmps186 (by simp) (by kernel_rfl) (rs := [.tmp 6]) (tys := [4]) rfl rfl (by simp [finOK, A.ts, OWN, ownE, ownT]) (by simp [resOK, A.ts, OWN, ownE, ownT, DE]) ?_
  simp only [go_sem]
  repeat' (first
    | simp only [IJS]
    | (refine E.CALL.use (areSides_s _ ?_) ?_ <;> (try simp only [go_sem]))
    | (refine E.CALL.use (in_s _ _ _) ?_ <;> (try simp only [go_sem]))
    | (refine E.GB.use (fun h => ?_) (fun h => ?_) <;> (simp only [go_sem, h]) <;> (try simp only [HFS] at h))
    | exact E.INDEP.mk2 (by kernel_rfl)
    | (refine E.IX_map ?_ (fun hx => ?_); rotate_left; simp only [go_sem])
    | apply And.intro
    | omega
    | (have q1 := areSides_len (l := l) (by assumption); have q2 := inR_of (x := a) (by assumption); have q3 := inR_of (x := b) (by assumption); omega; done)
    | (simp [sameSide, *]; done)
    | fail)
end
section
attribute [local go_sem] mdG_eq mdM toNat_pred setI List.length_set
theorem insSort_c (l : List Int) (hn : l.length ≤ 12) : Fn Go.Proofs.Tryz.prog 201 [.c (.s true 1 (l.map eInt)), .c (.v (vi 0)), .c (.v (vi l.length))] [.c (.s true 1 ((srt l).map eInt)), .c .d, .c .d] [] := by
  refine E.Fn.ev (n := 49) mdG false mix Go.Proofs.Tryz.func201 rfl (by simp [Go.Proofs.Tryz.f201]) Go.Proofs.Tryz.ntmps201 (by simp) (by kernel_rfl) (rs := []) (tys := []) rfl rfl (by simp [finOK, A.ts, OWN, ownE, ownT]) (by simp [resOK, A.ts, OWN, ownE, ownT, DE]) ?_
  simp only [go_sem]
  repeat' (first
    | with_reducible rfl
    | simp only [IJS]
    | (refine E.CALL.use (less_c _ _) ?_ <;> (try simp only [go_sem]))
    | (refine E.GB.use (fun h => ?_) (fun h => ?_) <;> (simp only [go_sem, h]) <;> (try simp only [HFS] at h))
    | exact E.INDEP.mk2 (by kernel_rfl)
    | exact E.RK.mk (by kernel_rfl)
    | (refine E.IX_map ?_ (fun hx => ?_); rotate_left; simp only [go_sem])
    | (refine E.loopR (ι := List Int × Nat) 1 rfl (fun ⟨d, i⟩ => [(.s 6, .v (.c (.v (vi i)))), (.k (0, 0), .e ⟨0, 1, d.map eInt⟩)]) [0, 1, 2] [(0, 0)] [] (fun ⟨d, i⟩ => l.length - i) (fun ⟨d, i⟩ => d.Perm l ∧ d.length = l.length ∧ 1 ≤ i ∧ (i ≤ l.length ∨ i = 1) ∧ (∀ a b, a < b → b < i → b < l.length → at' d a ≤ at' d b)) mix (by kernel_rfl) (l, 1) ?_ ?_ (fun ⟨d, i⟩ ⟨hp, hdl, h1i, hil, hR⟩ => ?_); all_goals (try simp (maxSteps := 900000) only [go_sem]); all_goals (try dsimp only at hp hdl h1i hil hR))
    | (refine E.NEXT.use [] (d2, i + 1) ?_ ?_ ?_; rotate_left 2; focus (simp (maxSteps := 900000) only [go_sem]; (repeat' (first | with_reducible rfl | exact E.RK.mk (by kernel_rfl) | apply And.intro | (push_cast; with_reducible rfl) | (refine E.int_c ?_; omega) | (simp only [go_sem]; done) | (rw [List.map_append]; rfl) | (simp; done) | (simp only [*]; done) | (rfl; done) | fail)); done))
    | (refine E.loopR (ι := List Int × Nat) 4 rfl (fun ⟨d2, j⟩ => [(.s 7, .v (.c (.v (vi j)))), (.k (0, 0), .e ⟨0, 1, d2.map eInt⟩)]) [0, 1, 2, 6, 10, 11, 12, 13, 14, 15] [(0, 0)] [] (fun ⟨d2, j⟩ => j) (fun ⟨d2, j⟩ => d2.Perm l ∧ d2.length = l.length ∧ j ≤ i ∧ InsI d2 i j) mix (by kernel_rfl) (d, i) ?_ ?_ (fun ⟨d2, j⟩ ⟨hp2, hd2, hji, hI⟩ => ?_); all_goals (try simp (maxSteps := 900000) only [go_sem]); all_goals (try dsimp only at hp2 hd2 hji hI))
    | (refine E.NEXT.use [] (swp d2 j, j - 1) ?_ ?_ ?_; rotate_left 2; focus (simp (maxSteps := 900000) only [go_sem]; (repeat' (first | with_reducible rfl | exact E.RK.mk (by kernel_rfl) | apply And.intro | (push_cast; with_reducible rfl) | (refine E.int_c ?_; omega) | (simp only [go_sem]; done) | (rw [List.map_append]; rfl) | (simp; done) | (simp only [*]; done) | (rfl; done) | fail)); done))
    | apply And.intro
    | omega
    | (simp only [List.length_take, List.length_drop, List.length_append, List.length_set, List.length_cons, List.length_nil]; omega)
    | (push_cast; with_reducible rfl)
    | refine congrArg (List.map _) ?_
    | (exact InsI.start fun a b h1 h2 => hR a b h1 h2 (by omega); done)
    | (rw [swp_len]; assumption; done)
    | (exact (swp_perm (by omega) (by omega)).trans hp2; done)
    | (refine hI.step (by omega) (by omega) (by omega) (by assumption); done)
    | (rw [srt_of hp (srt_of_at fun a b h1 h2 => hR a b h1 (by omega) (by omega))]; done)
    | (intro a b h1 h2 h3; exact hI.done (.inr (by assumption)) a b h1 (by omega); done)
    | (intro a b h1 h2 h3; exact hI.done (.inl (by omega)) a b h1 (by omega); done)
    | fail)
theorem pdq_c  (l : List Int) (lim : Int) (hn : l.length ≤ 12) : Fn Go.Proofs.Tryz.prog 199 [.c (.s true 1 ((l).map eInt)), .c (.v (vi 0)), .c (.v (vi l.length)), .c (.v (vi lim))] [.c (.s true 1 ((srt l).map eInt)), .c .d, .c .d, .c .d] [] := by
  refine E.Fn.ev (n := 134) mdG false mix Go.Proofs.Tryz.func199 rfl (by simp [Go.Proofs.Tryz.f199]) Go.Proofs.Tryz.ntmps199 (by simp) (by kernel_rfl) (rs := []) (tys := []) rfl rfl (by simp [finOK, A.ts, OWN, ownE, ownT]) (by simp [resOK, A.ts, OWN, ownE, ownT, DE]) ?_
  simp only [go_sem]
  repeat' (first
    | simp only [IJS]
    | (refine E.CALL.use (insSort_c _ ?_) ?_ <;> (try simp only [go_sem]))
    | (refine E.GB.use (fun h => ?_) (fun h => ?_) <;> (try (exfalso; simp only [HFS] at h; omega)) <;> (simp only [go_sem, h]) <;> (try simp only [HFS] at h))
    | exact E.RK.mk (by kernel_rfl)
    | (refine E.loopR (ι := Unit) 2 rfl (fun u => [(.s 8, .v (.c (.v (.bool true)))), (.s 9, .v (.c (.v (.bool true)))), (.s 1, .v (.c (.v (vi 0)))), (.s 2, .v (.c (.v (vi l.length)))), (.s 3, .v (.c (.v (vi lim))))]) [0] [] [] (fun u => 0) (fun u => 0 = 0 ∧ 0 = 0) mix (by kernel_rfl) () ?_ ?_ (fun u ⟨hu, hu2⟩ => ?_); all_goals (try simp (maxSteps := 900000) only [go_sem]); all_goals (try dsimp only at hu hu2))
    | apply And.intro
    | omega
    | (rw [srt_len]; done)
    | fail)
theorem sort_c (l : List Int) (hn : l.length ≤ 12) : Fn Go.Proofs.Tryz.prog 194 [.c (.s true 1 (l.map eInt))] [.c (.s true 1 ((srt l).map eInt))] [] := by
  refine E.Fn.ev (n := 11) mdG false mix Go.Proofs.Tryz.func194 rfl (by simp [Go.Proofs.Tryz.f194]) Go.Proofs.Tryz.ntmps194 (by simp) (by kernel_rfl) (rs := []) (tys := []) rfl rfl (by simp [finOK, A.ts, OWN, ownE, ownT]) (by simp [resOK, A.ts, OWN, ownE, ownT, DE]) ?_
  simp only [go_sem]
  repeat' (first
    | simp only [IJS]
    | (refine E.CALL.use (bitsLen_c _ ?_ ?_) ?_ <;> (try simp only [go_sem]))
    | (refine E.CALL.use (pdq_c _ _ ?_) ?_ <;> (try simp only [go_sem]))
    | omega
    | (rw [srt_len]; done)
    | (rw [wrap_u l.length (by omega)]; omega; done)
    | fail)
theorem clone_c (l : List Int) (hl : l.length ≤ 1048576) : Fn Go.Proofs.Tryz.prog 117 [.c (.s false 1 (l.map eInt))] [.c .d] [.c (.s true 1 ((l).map eInt))] := by
  refine E.Fn.ev (n := 8) mdG false mix Go.Proofs.Tryz.func117 rfl (by simp [Go.Proofs.Tryz.f117]) Go.Proofs.Tryz.ntmps117 (by simp) (by kernel_rfl) (rs := [.tmp 2]) (tys := [23]) rfl rfl (by simp [finOK, A.ts, OWN, ownE, ownT]) (by simp [resOK, A.ts, OWN, ownE, ownT, DE]) ?_
  simp only [go_sem]
  repeat' (first
    | simp only [IJS]
    | (refine E.GB.use (fun h => ?_) (fun h => ?_) <;> (simp only [go_sem, h]) <;> (try simp only [HFS] at h))
    | (refine E.NQ.use (fun b hb => ?_); simp only [go_sem])
    | apply And.intro
    | omega
    | (exact (hb h).symm; done)
    | fail)
end
section
attribute [local go_sem] mdM toNat_pred
theorem isML_s (m : MLog) (hml : m.confs.length ≤ 1048576) (hm : ∀ c ∈ m.confs, c.reps.length ≤ 1048576 ∧ c.wits.length ≤ 1048576) : Fn Go.Proofs.Tryz.prog 103 [.a (eMLog false m)] [.a [.d, .d]] [.c (.v (.bool (isML m)))] := by
  refine E.Fn.ev (n := 35) mdM false mix Go.Proofs.Tryz.func103 rfl (by simp [Go.Proofs.Tryz.f103]) Go.Proofs.Tryz.ntmps103 (by simp) (by kernel_rfl) (rs := [.tmp 2]) (tys := [4]) rfl rfl (by simp [finOK, A.ts, OWN, ownE, ownT]) (by simp [resOK, A.ts, OWN, ownE, ownT, DE]) ?_
  simp only [go_sem]
  repeat' (first
    | simp only [IJS]
    | (refine E.CALL.use (validConf_s _ ?_ ?_) ?_ <;> (try simp only [go_sem]))
    | (refine E.CALL.use (in_s _ _ _) ?_ <;> (try simp only [go_sem]))
    | (refine E.GB.use (fun h => ?_) (fun h => ?_) <;> (simp only [go_sem, h]) <;> (try simp only [HFS] at h))
    | exact E.RK.mk (by kernel_rfl)
    | (refine E.IX_map ?_ (fun hx => ?_); rotate_left; simp only [go_sem])
    | (refine E.loopR (ι := Nat) 2 rfl (fun i => [(.s 3, .v (.c (.v (vi i))))]) [1, 29, 30, 31, 32, 33, 34] [] [] (fun i => (m.confs).length - i) (fun i => i ≤ (m.confs).length ∧ (confsGo i (m.confs.drop i) && inR m.act 0 m.confs.length) = isML m) mix (by kernel_rfl) 0 ?_ ?_ (fun i ⟨hi, hR⟩ => ?_); all_goals (try simp (maxSteps := 900000) only [go_sem]); all_goals (try dsimp only at hi hR))
    | (refine E.NEXT.use [] (i + 1) ?_ ?_ ?_; rotate_left 2; focus (simp (maxSteps := 900000) only [go_sem]; (repeat' (first | with_reducible rfl | exact E.RK.mk (by kernel_rfl) | apply And.intro | (push_cast; with_reducible rfl) | (refine E.int_c ?_; omega) | (simp only [go_sem]; done) | (rw [List.map_append]; rfl) | (simp; done) | (simp only [*]; done) | fail)); done))
    | apply And.intro
    | omega
    | (exact (hm _ (E.at_mem (by omega))).1; done)
    | (exact (hm _ (E.at_mem (by omega))).2; done)
    | (rw [drop_at (l := m.confs) (i := i) (by omega)] at hR; rw [← hR]; simp [confsGo, *]; done)
    | (rw [E.drop_end (l := m.confs) (i := i) (by omega)] at hR; rw [← hR]; simp [confsGo]; done)
    | (rfl; done)
    | fail)
theorem copyC_s (c : Conf) (h1 : c.reps.length ≤ 1048576) (h2 : c.wits.length ≤ 1048576) : Fn Go.Proofs.Tryz.prog 150 [.a (eConf false c)] [.a [.d, .d, .d, .d]] [.a (eConf true (c))] := by
  refine E.Fn.ev (n := 16) mdM false mix Go.Proofs.Tryz.func150 rfl (by simp [Go.Proofs.Tryz.f150]) Go.Proofs.Tryz.ntmps150 (by simp) (by kernel_rfl) (rs := [.cell 2 73]) (tys := [73]) rfl rfl (by simp [finOK, A.ts, OWN, ownE, ownT]) (by simp [resOK, A.ts, OWN, ownE, ownT, DE]) ?_
  simp only [go_sem]
  repeat' (first
    | simp only [IJS]
    | exact E.INDEP.mk2 (by kernel_rfl)
    | apply And.intro
    | omega
    | fail)
theorem copyL_s (l : List LEnt) (hl : l.length ≤ 1048576) : Fn Go.Proofs.Tryz.prog 138 [.c (.s false 7 (l.map eLEnt))] [.c .d] [.c (.s true 7 ((l).map eLEnt))] := by
  refine E.Fn.ev (n := 6) mdM false mix Go.Proofs.Tryz.func138 rfl (by simp [Go.Proofs.Tryz.f138]) Go.Proofs.Tryz.ntmps138 (by simp) (by kernel_rfl) (rs := [.tmp 2]) (tys := [74]) rfl rfl (by simp [finOK, A.ts, OWN, ownE, ownT]) (by simp [resOK, A.ts, OWN, ownE, ownT, DE]) ?_
  simp only [go_sem]
  repeat' (first
    | simp only [IJS]
    | apply And.intro
    | omega
    | fail)
theorem confAt_s (m : MLog) (e : Int) (hml : m.confs.length ≤ 1048576) (hm : ∀ c ∈ m.confs, c.reps.length ≤ 1048576 ∧ c.wits.length ≤ 1048576) : Fn Go.Proofs.Tryz.prog 107 [.a (eMLog false m), .c (.v (vi e))] [.a [.d, .d], .c .d] [.a (eConf true ((confAt m e).1)), .c (.v (.bool ((confAt m e).2)))] := by
  refine E.Fn.ev (n := 25) mdM false mix Go.Proofs.Tryz.func107 rfl (by simp [Go.Proofs.Tryz.f107]) Go.Proofs.Tryz.ntmps107 (by simp) (by kernel_rfl) (rs := [.cell 4 73, .tmp 5]) (tys := [73, 4]) rfl rfl (by simp [finOK, A.ts, OWN, ownE, ownT]) (by simp [resOK, A.ts, OWN, ownE, ownT, DE]) ?_
  simp only [go_sem]
  repeat' (first
    | simp only [IJS]
    | (refine E.CALL.use (isML_s _ ?_ ?_) ?_ <;> (try simp only [go_sem]))
    | (refine E.CALL.use (in_s _ _ _) ?_ <;> (try simp only [go_sem]))
    | (refine E.CALL.use (copyC_s _ ?_ ?_) ?_ <;> (try simp only [go_sem]))
    | (refine E.GB.use (fun h => ?_) (fun h => ?_) <;> (simp only [go_sem, h]) <;> (try simp only [HFS] at h))
    | (refine E.IX_map ?_ (fun hx => ?_); rotate_left; simp only [go_sem])
    | apply And.intro
    | omega
    | refine congrArg (List.map _) ?_
    | (have q := inR_of (x := e) (by assumption); omega; done)
    | (have q := inR_of (x := e) (by assumption); exact (hm _ (E.at_mem (by omega))).1; done)
    | (have q := inR_of (x := e) (by assumption); exact (hm _ (E.at_mem (by omega))).2; done)
    | (simp [confAt, noConf, *]; done)
    | fail)
end
section
attribute [local go_sem] mdG_eq mdM toNat_pred setI List.length_set
def eLI (l : List Int) : List T := [.s false 1 (l.map eInt)]
theorem eLI_eq (l : List Int) : eLI l = [.s false 1 (l.map eInt)] := rfl
def eLE (l : List LEnt) : List T := [.s false 7 (l.map eLEnt)]
theorem eLE_eq (l : List LEnt) : eLE l = [.s false 7 (l.map eLEnt)] := rfl
theorem flat_at {α : Type} : ∀ {ls : List (List α)} {i : Nat}, i < ls.length → (ls.take i).flatten.length + (at' ls i).length ≤ ls.flatten.length
  | l :: ls, 0, h => by simp [at']
  | l :: ls, i + 1, h => by
    have := flat_at (ls := ls) (i := i) (by simpa using h)
    simp only [List.take_succ_cons, List.flatten_cons, List.length_append] at this ⊢
    simp only [at', List.getD_cons_succ] at this ⊢
    omega
theorem flat_take {α : Type} {ls : List (List α)} {i : Nat} (h : i < ls.length) : (ls.take (i + 1)).flatten = (ls.take i).flatten ++ at' ls i := by
  rw [E.take_at h, List.flatten_append]; simp
end
section
attribute [local go_sem] mdG_eq mdM toNat_pred setI List.length_set
def mdL (f i : Nat) : Bool := if i = 0 then (if f = 194 then true else if f = 199 then true else if f = 201 then true else if f = 195 then true else if f = 197 then true else if f = 196 then true else if f = 27 then true else if f = 130 then true else if f = 131 then true else if f = 70 then true else if f = 71 then true else if f = 69 then true else if f = 19 then true else false) else false
theorem mdL_eq (f i : Nat) : mdL f i = if i = 0 then (if f = 194 then true else if f = 199 then true else if f = 201 then true else if f = 195 then true else if f = 197 then true else if f = 196 then true else if f = 27 then true else if f = 130 then true else if f = 131 then true else if f = 70 then true else if f = 71 then true else if f = 69 then true else if f = 19 then true else false) else false := rfl
theorem zeros {α : Type} (f : α → List T) (n : Nat) (z : α) : List.replicate n (f z) = (List.replicate n z).map f := by simp
theorem E.b_rem {P : Program} {dr : Bool} {t : TypeId} {ik : IntKind} {m n : Int} {k : V → M} {st : St} {rs : List Loc} {K : List Loc → Ws → Prop} : E.WQ P dr (bin2 P .rem t (.c (.v (.int ik m))) (.c (.v (.int ik n))) k) st rs K () = (n ≠ 0 ∧ E.WQ P dr (k (.c (.v (.int ik (m.tmod n))))) st rs K ()) := by
  by_cases hn : n = 0
  · subst hn; simp [bin2, binM, intBin, E.wq_bad]
  · simp [bin2, binM, intBin, hn]
end
end Go.Abs

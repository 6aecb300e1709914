/- Contracts of functions of the program, over the abstract machine, and facts for them. No condition. -/
import Derived.Test.YtlpbeejmefhpeaaGreatFacts
import Derived.Test.YtlpbeejmefhpeaaGreatPure26
import Derived.Test.YtlpbeejmefhpeaaGreatQ13
import Derived.Test.YtlpbeejmefhpeaaGreatQ16
import Derived.Test.YtlpbeejmefhpeaaGreatQ22
import Derived.Test.YtlpbeejmefhpeaaGreatQ28
import Derived.Test.YtlpbeejmefhpeaaGreatQ3
import Derived.Test.YtlpbeejmefhpeaaGreatQ4
import Derived.Test.YtlpbeejmefhpeaaGreatQ8
import Derived.Test.YtlpbeejmefhpeaaGreatQ97st2
set_option linter.unusedVariables false
set_option linter.unusedSimpArgs false
set_option linter.unnecessarySimpa false
set_option linter.constructorNameAsVariable false
set_option maxHeartbeats 4000000
set_option maxRecDepth 100000
namespace Go.Abs
open Go
attribute [local go_sem ↓] E.argsA_h E.wq_ret E.wq_req E.wq_bad E.wq_call E.wq_get E.wq_getO E.wq_getOs E.wq_getPs E.wq_fresh E.wq_anyNil E.wq_getR0 E.wq_getR E.wq_ixM E.wq_n E.wq_g E.wq_gn E.ev_skip E.ev_region E.ev_draw E.ev_seq E.ev_cond E.ev_block E.ev_exit E.ev_ret E.sq_n E.sq_e E.sq_r E.bl_n E.bl_e E.bl_r E.lp_n E.lp_e E.lp_r E.fk_n E.fk_r E.q_move E.q_assign E.q_pick E.q_bin E.q_binw E.q_un E.q_alloc E.q_box E.q_build E.q_buildS E.q_makeS E.q_load E.q_store E.q_nilCheck E.q_slice E.q_fieldAddr E.q_field E.q_indexAddr E.q_extract E.q_makeFunc E.q_call E.q_callT E.q_len E.q_append E.q_min E.q_max E.q_convert E.q_cap E.q_clear appendIM appendZM E.b_add E.b_sub E.b_mul E.b_eql E.b_neq E.b_lss E.b_leq E.b_gtr E.b_geq E.GO_tmp E.GO_int E.GO_bool E.GO_str E.GO_nil E.GO_func E.GOs_nil E.GOs_cons E.GPs_nil E.GPs_cons E.RW_nil E.RW_cons E.dstAt_0 E.dstAt_s E.keepL_nil E.keepL_s E.keepL_k E.rmN_nil E.rmN_cons E.memN_nil E.memN_cons E.memK_nil E.memK_cons E.ovl_nil E.ovl_kk E.ovl_sk E.ovl_ks E.ovl_ss ofL_s ofL_sk ofL_ks ofL_k ofL_nil E.CO_tmp E.CO_bool
attribute [local go_sem] E.RM_nil E.RM_cons E.kd_k E.sbr_eq E.s3_nil E.s3_s E.s3_k E.vr_c E.vr_a E.vr_p E.vr_q E.vr_t E.vr_f E.vr_u E.cr_r E.cr_v E.cr_b E.cr_n E.cr_u E.crs_nil E.crs_cons E.renK_nil E.renK_cons keysVs V.keys C.keys keysCs E.RG_nil E.RG_cons E.GV_v E.GB_true E.GB_false E.GX_b E.GG_t E.GG_f E.GG_u E.GU_some E.IX_0 E.IX_s E.CX_s E.FR_none E.EN_e E.GVB_b E.b_boolM E.b_nilM E.b_strM E.b_aggM
attribute [local go_sem] List.cons_append List.nil_append List.append_nil List.length_cons List.length_nil List.length_map List.length_append callM E.argsH_nil E.argsH_cons E.argH_c E.argH_a E.argH_f E.cellsH_nil E.cellsH_cons E.cellH_v E.cellH_b E.cellH_n E.cellH_nt E.cellH_u E.cellH_rt E.cellH_rf capsA capA callable backs backT resVs resV resC tupV lenV intV boolV getE getO entryL entryKs A.ts entryV entryC entryCs entryCap List.map_cons List.map_nil E.cut_n E.cut_r E.cutM plainL A.lastOK T.lastOK Bool.false_or A.capOK szEs szE szT SZ whole toB toC List.drop_zero List.take_zero List.take_succ_cons List.drop_succ_cons resultsM resultM outM outM1 convs conv finAs finA finT finTs Int.toNat_natCast A.plain T.plain List.isEmpty_nil List.isEmpty_cons Bool.or_true Bool.true_or Bool.and_self List.getElem?_cons_zero List.getElem?_cons_succ Option.bind_some Option.bind_none Option.bind Nat.zero_add Nat.add_zero OWN BOR ONE SCAL DE ETA E.take_rest Int.toNat_zero E.take_map E.drop_map E.take_len1 List.take_length E.app_map Int.natCast_zero Int.sub_zero Int.toNat_sub partCells V.cells convsL appendM srcM E.scalEs_nil E.scalEs_cons E.oneEs_nil E.oneEs_cons List.all_cons List.all_nil T.one Bool.and_true gone ownEs ownE ownT borEs borE borT setRow splice List.set_cons_zero List.set_cons_succ optI getOpt sliceM ptrTo app_ofL T.isV Value.oneCell' fillC zeroC spliceC allV eqVs eqV minV maxV setAt setCell holed List.dropLast List.getLast?_singleton Option.getD_some Option.isSome_some Option.isSome_none Bool.and_false Bool.true_and Bool.false_and Option.map_some Option.map_none false_or true_or or_true rowAt cellAt E.constV_nil E.constV_int E.constV_bool E.constV_str E.setCell_set E.setCell_len setRow setAt List.dropLast_cons_cons List.dropLast_singleton List.getLast?_cons_cons
attribute [local go_sem_proc ↓] reduceIte
attribute [local go_sem_proc] Nat.reduceEqDiff reduceCtorEq Nat.reduceAdd Nat.reduceMul
attribute [local irreducible] E.argsH E.argH E.cellsH E.cellH E.GV E.GB E.GX E.GG E.GU E.IX E.CX E.RW E.FR E.EN E.CALL E.GO E.GOs E.GPs E.GVB E.KD E.RM E.RG E.CO E.WQ E.EV E.SQ E.BL E.LP E.FK E.S3 E.RK E.NEXT E.NQ E.INDEP
section
attribute [local go_sem] mdG_eq mdM toNat_pred setI List.length_set mdL_eq E.b_rem
theorem commitP_s (c : Clu) (id : Int) (hB : CluB c) : Fn Go.Proofs.Tryz.prog 76 [.a (eClu false c), .c (.v (vi id))] [.a [.d, .d, .d, .d, .d, .d, .d, .d, .d, .d], .c .d] [.a (eClu true ((commitP c id).1)), .c (.v (.bool ((commitP c id).2)))] := by
  refine E.Fn.ev (n := 74) mdL false mix Go.Proofs.Tryz.func76 rfl (by simp [Go.Proofs.Tryz.f76]) Go.Proofs.Tryz.ntmps76 (by simp) (by kernel_rfl) (rs := [.cell 4 45, .tmp 5]) (tys := [45, 4]) rfl rfl (by simp [finOK, A.ts, OWN, ownE, ownT]) (by simp [resOK, A.ts, OWN, ownE, ownT, DE]) ?_
  simp only [go_sem]
  repeat' (first
    | simp only [IJS]
    | (refine E.CALL.use (copyU_s_B _ ?_) ?_ <;> (try simp only [go_sem]))
    | (refine E.CALL.use (primAt_s _ _ ?_) ?_ <;> (try simp only [go_sem]))
    | (refine E.CALL.use (members_s_B _ ?_) ?_ <;> (try simp only [go_sem]))
    | (refine E.CALL.use (pushTo_s _ _ _ ?_) ?_ <;> (try simp only [go_sem]))
    | (refine E.GB.use (fun h => ?_) (fun h => ?_) <;> (simp only [go_sem, h]) <;> (try simp only [HFS] at h))
    | exact E.INDEP.mk2 (by kernel_rfl)
    | exact E.RK.mk (by kernel_rfl)
    | (refine E.IX_map ?_ (fun hx => ?_); rotate_left; simp only [go_sem])
    | (refine E.loopR (ι := Nat × Nat × Clu × Bool) 7 rfl (fun ⟨i, v, y, a⟩ => [(.s 9, .v (.c (.v (vi i)))), (.s 8, .v (.c (.v (.bool a)))), (.k (6, 0), .e ⟨v, 10, [[.v (vi y.now), .s true 12 (y.srvs.map (eSrv true)), .s true 1 (y.sides.map eInt), .s true 4 (y.mast.confs.map (eConf true)), .v (vi y.mast.act), .v (vi y.mup), .v (vi y.lse.epoch), .v (vi y.lse.holder), .v (vi y.lse.til), .s true 3 (y.plcs.map ePlc)]]⟩)]) [1, 4, 5, 6, 7, 12, 48, 49, 50, 51, 52, 53, 54, 55, 56, 57, 58, 59, 60, 61, 62, 63, 64, 65, 66, 67, 68, 69, 70, 71, 72, 73] [(6, 0)] [] (fun ⟨i, v, y, a⟩ => (membersOf (at' c.srvs id.toNat).conf).length - i) (fun ⟨i, v, y, a⟩ => i ≤ (membersOf (at' c.srvs id.toNat).conf).length ∧ PushI c id (membersOf (at' c.srvs id.toNat).conf) i y a) mix (by kernel_rfl) (0, 1, c, true) ?_ ?_ (fun ⟨i, v, y, a⟩ ⟨hi, hQ⟩ => ?_); all_goals (try simp (maxSteps := 900000) only [go_sem]); all_goals (try dsimp only at hi hQ))
    | (refine E.NEXT.use [] (i + 1, v + 1, (pushTo y id (at' (membersOf (at' c.srvs id.toNat).conf) i)).1, (pushTo y id (at' (membersOf (at' c.srvs id.toNat).conf) i)).2) ?_ ?_ ?_; rotate_left 2; focus (simp (maxSteps := 900000) only [go_sem]; (repeat' (first | with_reducible rfl | exact E.RK.mk (by kernel_rfl) | apply And.intro | (push_cast; with_reducible rfl) | (refine E.int_c ?_; omega) | (simp only [go_sem]; done) | (rw [List.map_append]; rfl) | (simp; done) | (simp only [*]; done) | (rw [List.map_set]; rfl; done) | (rw [hZ.log id.toNat, hQ.log, List.map_set]; rfl; done) | fail)); done))
    | (refine E.NEXT.use [] (i + 1, v + 1, (pushTo y id (at' (membersOf (at' c.srvs id.toNat).conf) i)).1, false) ?_ ?_ ?_; rotate_left 2; focus (simp (maxSteps := 900000) only [go_sem]; (repeat' (first | with_reducible rfl | exact E.RK.mk (by kernel_rfl) | apply And.intro | (push_cast; with_reducible rfl) | (refine E.int_c ?_; omega) | (simp only [go_sem]; done) | (rw [List.map_append]; rfl) | (simp; done) | (simp only [*]; done) | (rw [List.map_set]; rfl; done) | (rw [hZ.log id.toNat, hQ.log, List.map_set]; rfl; done) | fail)); done))
    | (refine E.loopR (ι := Nat × List Srv) 13 rfl (fun ⟨j, s⟩ => [(.s 12, .v (.c (.v (vi j)))), (.k (6, 0), .e ⟨v, 10, [[.v (vi y.now), .s true 12 ((s).map (eSrv true)), .s true 1 (y.sides.map eInt), .s true 4 (y.mast.confs.map (eConf true)), .v (vi y.mast.act), .v (vi y.mup), .v (vi y.lse.epoch), .v (vi y.lse.holder), .v (vi y.lse.til), .s true 3 (y.plcs.map ePlc)]]⟩)]) [1, 4, 5, 6, 7, 8, 72, 73] [(6, 0)] [] (fun ⟨j, s⟩ => (membersOf (at' c.srvs id.toNat).conf).length - j) (fun ⟨j, s⟩ => j ≤ (membersOf (at' c.srvs id.toNat).conf).length ∧ ComI ((at' c.srvs id.toNat).log.length : Int) y (membersOf (at' c.srvs id.toNat).conf) j s ∧ (a = false → s = y.srvs)) mix (by kernel_rfl) (0, y.srvs) ?_ ?_ (fun ⟨j, s⟩ ⟨hi2, hZ, hN⟩ => ?_); all_goals (try simp (maxSteps := 900000) only [go_sem]); all_goals (try dsimp only at hi2 hZ hN))
    | (refine E.NEXT.use [] (j + 1, s.set (at' (membersOf (at' c.srvs id.toNat).conf) j).toNat (setCommit (at' s (at' (membersOf (at' c.srvs id.toNat).conf) j).toNat) ((at' c.srvs id.toNat).log.length : Int))) ?_ ?_ ?_; rotate_left 2; focus (simp (maxSteps := 900000) only [go_sem]; (repeat' (first | with_reducible rfl | exact E.RK.mk (by kernel_rfl) | apply And.intro | (push_cast; with_reducible rfl) | (refine E.int_c ?_; omega) | (simp only [go_sem]; done) | (rw [List.map_append]; rfl) | (simp; done) | (simp only [*]; done) | (rw [List.map_set]; rfl; done) | (rw [hZ.log id.toNat, hQ.log, List.map_set]; rfl; done) | fail)); done))
    | apply And.intro
    | omega
    | refine congrArg (List.map _) ?_
    | (have q := members_len (at' c.srvs id.toNat).conf; omega; done)
    | (have q := members_at (c := (at' c.srvs id.toNat).conf) (i := j) (by omega); have q2 := hasSrv_of (primAt_of (c := c) (id := id) (by with_reducible assumption)).1; have q3 := hQ.len; have q4 := hZ.len; omega; done)
    | (have q := primAt_log (c := c) (id := id) (by with_reducible assumption); omega; done)
    | (exact .start hB; done)
    | (exact .start hQ.b; done)
    | (exact hQ.b; done)
    | (exact hQ.next_t (by omega) (by with_reducible assumption); done)
    | (exact hQ.next_f (by omega) (by with_reducible assumption); done)
    | (exact hZ.next (by omega); done)
    | (exact fun q => absurd ((by with_reducible assumption : a = true).symm.trans q) (by decide); done)
    | (rw [commitP_f (c := c) (y := y) (id := id) (by with_reducible assumption) (by have q := hQ.fin (by omega); rw [(by with_reducible assumption : a = false)] at q; exact q)]; done)
    | (exact (CluB.at (by assumption) _).conf; done)
    | (rw [commitP_n (by with_reducible assumption)]; done)
    | (rw [hN (by with_reducible assumption)]; (have q9 := congrArg (fun x : Clu => x.srvs) ((congrArg Prod.fst (commitP_f (c := c) (y := y) (id := id) (by with_reducible assumption) (by have q := hQ.fin (by omega); rw [(by with_reducible assumption : a = false)] at q; exact q))).symm); exact q9); done)
    | (exact (Bool.eq_false_or_eq_true a).elim (fun q0 => by (have q9 := congrArg (fun x : Clu => x.now) (((congrArg Prod.fst (commitP_t (c := c) (y := y) (id := id) (by with_reducible assumption) (by have q := hQ.fin (by omega); rw [(by with_reducible assumption : a = true)] at q; exact q))).trans (hZ.fin (by omega)).symm).symm); exact q9)) (fun q0 => by (have q9 := congrArg (fun x : Clu => x.now) ((congrArg Prod.fst (commitP_f (c := c) (y := y) (id := id) (by with_reducible assumption) (by have q := hQ.fin (by omega); rw [(by with_reducible assumption : a = false)] at q; exact q))).symm); exact q9)); done)
    | (exact (Bool.eq_false_or_eq_true a).elim (fun q0 => by (have q9 := congrArg (fun x : Clu => x.srvs) (((congrArg Prod.fst (commitP_t (c := c) (y := y) (id := id) (by with_reducible assumption) (by have q := hQ.fin (by omega); rw [(by with_reducible assumption : a = true)] at q; exact q))).trans (hZ.fin (by omega)).symm).symm); exact q9)) (fun q0 => by (rw [hN q0]; have q9 := congrArg (fun x : Clu => x.srvs) ((congrArg Prod.fst (commitP_f (c := c) (y := y) (id := id) (by with_reducible assumption) (by have q := hQ.fin (by omega); rw [(by with_reducible assumption : a = false)] at q; exact q))).symm); exact q9)); done)
    | (exact (Bool.eq_false_or_eq_true a).elim (fun q0 => by (have q9 := congrArg (fun x : Clu => x.sides) (((congrArg Prod.fst (commitP_t (c := c) (y := y) (id := id) (by with_reducible assumption) (by have q := hQ.fin (by omega); rw [(by with_reducible assumption : a = true)] at q; exact q))).trans (hZ.fin (by omega)).symm).symm); exact q9)) (fun q0 => by (have q9 := congrArg (fun x : Clu => x.sides) ((congrArg Prod.fst (commitP_f (c := c) (y := y) (id := id) (by with_reducible assumption) (by have q := hQ.fin (by omega); rw [(by with_reducible assumption : a = false)] at q; exact q))).symm); exact q9)); done)
    | (exact (Bool.eq_false_or_eq_true a).elim (fun q0 => by (have q9 := congrArg (fun x : Clu => x.mast.confs) (((congrArg Prod.fst (commitP_t (c := c) (y := y) (id := id) (by with_reducible assumption) (by have q := hQ.fin (by omega); rw [(by with_reducible assumption : a = true)] at q; exact q))).trans (hZ.fin (by omega)).symm).symm); exact q9)) (fun q0 => by (have q9 := congrArg (fun x : Clu => x.mast.confs) ((congrArg Prod.fst (commitP_f (c := c) (y := y) (id := id) (by with_reducible assumption) (by have q := hQ.fin (by omega); rw [(by with_reducible assumption : a = false)] at q; exact q))).symm); exact q9)); done)
    | (exact (Bool.eq_false_or_eq_true a).elim (fun q0 => by (have q9 := congrArg (fun x : Clu => x.mast.act) (((congrArg Prod.fst (commitP_t (c := c) (y := y) (id := id) (by with_reducible assumption) (by have q := hQ.fin (by omega); rw [(by with_reducible assumption : a = true)] at q; exact q))).trans (hZ.fin (by omega)).symm).symm); exact q9)) (fun q0 => by (have q9 := congrArg (fun x : Clu => x.mast.act) ((congrArg Prod.fst (commitP_f (c := c) (y := y) (id := id) (by with_reducible assumption) (by have q := hQ.fin (by omega); rw [(by with_reducible assumption : a = false)] at q; exact q))).symm); exact q9)); done)
    | (exact (Bool.eq_false_or_eq_true a).elim (fun q0 => by (have q9 := congrArg (fun x : Clu => x.mup) (((congrArg Prod.fst (commitP_t (c := c) (y := y) (id := id) (by with_reducible assumption) (by have q := hQ.fin (by omega); rw [(by with_reducible assumption : a = true)] at q; exact q))).trans (hZ.fin (by omega)).symm).symm); exact q9)) (fun q0 => by (have q9 := congrArg (fun x : Clu => x.mup) ((congrArg Prod.fst (commitP_f (c := c) (y := y) (id := id) (by with_reducible assumption) (by have q := hQ.fin (by omega); rw [(by with_reducible assumption : a = false)] at q; exact q))).symm); exact q9)); done)
    | (exact (Bool.eq_false_or_eq_true a).elim (fun q0 => by (have q9 := congrArg (fun x : Clu => x.lse.epoch) (((congrArg Prod.fst (commitP_t (c := c) (y := y) (id := id) (by with_reducible assumption) (by have q := hQ.fin (by omega); rw [(by with_reducible assumption : a = true)] at q; exact q))).trans (hZ.fin (by omega)).symm).symm); exact q9)) (fun q0 => by (have q9 := congrArg (fun x : Clu => x.lse.epoch) ((congrArg Prod.fst (commitP_f (c := c) (y := y) (id := id) (by with_reducible assumption) (by have q := hQ.fin (by omega); rw [(by with_reducible assumption : a = false)] at q; exact q))).symm); exact q9)); done)
    | (exact (Bool.eq_false_or_eq_true a).elim (fun q0 => by (have q9 := congrArg (fun x : Clu => x.lse.holder) (((congrArg Prod.fst (commitP_t (c := c) (y := y) (id := id) (by with_reducible assumption) (by have q := hQ.fin (by omega); rw [(by with_reducible assumption : a = true)] at q; exact q))).trans (hZ.fin (by omega)).symm).symm); exact q9)) (fun q0 => by (have q9 := congrArg (fun x : Clu => x.lse.holder) ((congrArg Prod.fst (commitP_f (c := c) (y := y) (id := id) (by with_reducible assumption) (by have q := hQ.fin (by omega); rw [(by with_reducible assumption : a = false)] at q; exact q))).symm); exact q9)); done)
    | (exact (Bool.eq_false_or_eq_true a).elim (fun q0 => by (have q9 := congrArg (fun x : Clu => x.lse.til) (((congrArg Prod.fst (commitP_t (c := c) (y := y) (id := id) (by with_reducible assumption) (by have q := hQ.fin (by omega); rw [(by with_reducible assumption : a = true)] at q; exact q))).trans (hZ.fin (by omega)).symm).symm); exact q9)) (fun q0 => by (have q9 := congrArg (fun x : Clu => x.lse.til) ((congrArg Prod.fst (commitP_f (c := c) (y := y) (id := id) (by with_reducible assumption) (by have q := hQ.fin (by omega); rw [(by with_reducible assumption : a = false)] at q; exact q))).symm); exact q9)); done)
    | (exact (Bool.eq_false_or_eq_true a).elim (fun q0 => by (have q9 := congrArg (fun x : Clu => x.plcs) (((congrArg Prod.fst (commitP_t (c := c) (y := y) (id := id) (by with_reducible assumption) (by have q := hQ.fin (by omega); rw [(by with_reducible assumption : a = true)] at q; exact q))).trans (hZ.fin (by omega)).symm).symm); exact q9)) (fun q0 => by (have q9 := congrArg (fun x : Clu => x.plcs) ((congrArg Prod.fst (commitP_f (c := c) (y := y) (id := id) (by with_reducible assumption) (by have q := hQ.fin (by omega); rw [(by with_reducible assumption : a = false)] at q; exact q))).symm); exact q9)); done)
    | (exact (Bool.eq_false_or_eq_true a).elim (fun q0 => by rw [commitP_t (c := c) (y := y) (id := id) (by with_reducible assumption) (by have q := hQ.fin (by omega); rw [(by with_reducible assumption : a = true)] at q; exact q), q0]) (fun q0 => by rw [commitP_f (c := c) (y := y) (id := id) (by with_reducible assumption) (by have q := hQ.fin (by omega); rw [(by with_reducible assumption : a = false)] at q; exact q), q0]); done)
    | (exact fun _ => trivial; done)
    | fail)
theorem commitP_i (c : Clu) (id : Int) (hB : CluB c) : Fn Go.Proofs.Tryz.prog 78 [.a (eClu false c), .c (.v (vi id))] [.a [.d, .d, .d, .d, .d, .d, .d, .d, .d, .d], .c .d] [.a (eClu true ((commitP c id).1)), .c (.v (.bool ((commitP c id).2)))] := by
  refine E.Fn.ev (n := 68) mdL false mix Go.Proofs.Tryz.func78 rfl (by simp [Go.Proofs.Tryz.f78]) Go.Proofs.Tryz.ntmps78 (by simp) (by kernel_rfl) (rs := [.cell 4 45, .tmp 5]) (tys := [45, 4]) rfl rfl (by simp [finOK, A.ts, OWN, ownE, ownT]) (by simp [resOK, A.ts, OWN, ownE, ownT, DE]) ?_
  simp only [go_sem]
  repeat' (first
    | simp only [IJS]
    | (refine E.CALL.use (copyU_i_B _ ?_) ?_ <;> (try simp only [go_sem]))
    | (refine E.CALL.use (primAt_i _ _ ?_) ?_ <;> (try simp only [go_sem]))
    | (refine E.CALL.use (members_i_B _ ?_) ?_ <;> (try simp only [go_sem]))
    | (refine E.CALL.use (pushTo_i _ _ _ ?_) ?_ <;> (try simp only [go_sem]))
    | (refine E.GB.use (fun h => ?_) (fun h => ?_) <;> (simp only [go_sem, h]) <;> (try simp only [HFS] at h))
    | exact E.INDEP.mk2 (by kernel_rfl)
    | exact E.RK.mk (by kernel_rfl)
    | (refine E.IX_map ?_ (fun hx => ?_); rotate_left; simp only [go_sem])
    | (refine E.loopR (ι := Nat × Nat × Clu × Bool) 6 rfl (fun ⟨i, v, y, a⟩ => [(.s 30, .v (.c (.v (vi i)))), (.s 8, .v (.c (.v (.bool a)))), (.k (6, 0), .e ⟨v, 10, [[.v (vi y.now), .s true 12 (y.srvs.map (eSrv true)), .s true 1 (y.sides.map eInt), .s true 4 (y.mast.confs.map (eConf true)), .v (vi y.mast.act), .v (vi y.mup), .v (vi y.lse.epoch), .v (vi y.lse.holder), .v (vi y.lse.til), .s true 3 (y.plcs.map ePlc)]]⟩)]) [1, 2, 4, 5, 6, 7, 13, 28, 29, 46, 47, 48, 49, 50, 51, 52, 53, 54, 55, 56, 57, 58, 59, 60, 61, 62, 63, 64, 65, 66, 67] [(6, 0)] [] (fun ⟨i, v, y, a⟩ => (membersOf (at' c.srvs id.toNat).conf).length - i) (fun ⟨i, v, y, a⟩ => i ≤ (membersOf (at' c.srvs id.toNat).conf).length ∧ PushI c id (membersOf (at' c.srvs id.toNat).conf) i y a) mix (by kernel_rfl) (0, 1, c, true) ?_ ?_ (fun ⟨i, v, y, a⟩ ⟨hi, hQ⟩ => ?_); all_goals (try simp (maxSteps := 900000) only [go_sem]); all_goals (try dsimp only at hi hQ))
    | (refine E.NEXT.use [] (i + 1, v + 1, (pushTo y id (at' (membersOf (at' c.srvs id.toNat).conf) i)).1, (pushTo y id (at' (membersOf (at' c.srvs id.toNat).conf) i)).2) ?_ ?_ ?_; rotate_left 2; focus (simp (maxSteps := 900000) only [go_sem]; (repeat' (first | with_reducible rfl | exact E.RK.mk (by kernel_rfl) | apply And.intro | (push_cast; with_reducible rfl) | (refine E.int_c ?_; omega) | (simp only [go_sem]; done) | (rw [List.map_append]; rfl) | (simp; done) | (simp only [*]; done) | (rw [List.map_set]; rfl; done) | (rw [hZ.log id.toNat, hQ.log, List.map_set]; rfl; done) | fail)); done))
    | (refine E.NEXT.use [] (i + 1, v + 1, (pushTo y id (at' (membersOf (at' c.srvs id.toNat).conf) i)).1, false) ?_ ?_ ?_; rotate_left 2; focus (simp (maxSteps := 900000) only [go_sem]; (repeat' (first | with_reducible rfl | exact E.RK.mk (by kernel_rfl) | apply And.intro | (push_cast; with_reducible rfl) | (refine E.int_c ?_; omega) | (simp only [go_sem]; done) | (rw [List.map_append]; rfl) | (simp; done) | (simp only [*]; done) | (rw [List.map_set]; rfl; done) | (rw [hZ.log id.toNat, hQ.log, List.map_set]; rfl; done) | fail)); done))
    | (refine E.loopR (ι := Nat × List Srv) 14 rfl (fun ⟨j, s⟩ => [(.s 49, .v (.c (.v (vi j)))), (.k (6, 0), .e ⟨v, 10, [[.v (vi y.now), .s true 12 ((s).map (eSrv true)), .s true 1 (y.sides.map eInt), .s true 4 (y.mast.confs.map (eConf true)), .v (vi y.mast.act), .v (vi y.mup), .v (vi y.lse.epoch), .v (vi y.lse.holder), .v (vi y.lse.til), .s true 3 (y.plcs.map ePlc)]]⟩)]) [1, 2, 4, 5, 6, 8, 47, 48, 66, 67] [(6, 0)] [] (fun ⟨j, s⟩ => (membersOf (at' c.srvs id.toNat).conf).length - j) (fun ⟨j, s⟩ => j ≤ (membersOf (at' c.srvs id.toNat).conf).length ∧ ComI ((at' c.srvs id.toNat).log.length : Int) y (membersOf (at' c.srvs id.toNat).conf) j s ∧ (a = false → s = y.srvs)) mix (by kernel_rfl) (0, y.srvs) ?_ ?_ (fun ⟨j, s⟩ ⟨hi2, hZ, hN⟩ => ?_); all_goals (try simp (maxSteps := 900000) only [go_sem]); all_goals (try dsimp only at hi2 hZ hN))
    | (refine E.NEXT.use [] (j + 1, s.set (at' (membersOf (at' c.srvs id.toNat).conf) j).toNat (setCommit (at' s (at' (membersOf (at' c.srvs id.toNat).conf) j).toNat) ((at' c.srvs id.toNat).log.length : Int))) ?_ ?_ ?_; rotate_left 2; focus (simp (maxSteps := 900000) only [go_sem]; (repeat' (first | with_reducible rfl | exact E.RK.mk (by kernel_rfl) | apply And.intro | (push_cast; with_reducible rfl) | (refine E.int_c ?_; omega) | (simp only [go_sem]; done) | (rw [List.map_append]; rfl) | (simp; done) | (simp only [*]; done) | (rw [List.map_set]; rfl; done) | (rw [hZ.log id.toNat, hQ.log, List.map_set]; rfl; done) | fail)); done))
    | apply And.intro
    | omega
    | refine congrArg (List.map _) ?_
    | (have q := members_len (at' c.srvs id.toNat).conf; omega; done)
    | (have q := members_at (c := (at' c.srvs id.toNat).conf) (i := j) (by omega); have q2 := hasSrv_of (primAt_of (c := c) (id := id) (by with_reducible assumption)).1; have q3 := hQ.len; have q4 := hZ.len; omega; done)
    | (have q := primAt_log (c := c) (id := id) (by with_reducible assumption); omega; done)
    | (exact .start hB; done)
    | (exact .start hQ.b; done)
    | (exact hQ.b; done)
    | (exact hQ.next_t (by omega) (by with_reducible assumption); done)
    | (exact hQ.next_f (by omega) (by with_reducible assumption); done)
    | (exact hZ.next (by omega); done)
    | (exact fun q => absurd ((by with_reducible assumption : a = true).symm.trans q) (by decide); done)
    | (rw [commitP_t (c := c) (y := y) (id := id) (by with_reducible assumption) (by have q := hQ.fin (by omega); rw [(by with_reducible assumption : a = true)] at q; exact q)]; done)
    | (rw [commitP_f (c := c) (y := y) (id := id) (by with_reducible assumption) (by have q := hQ.fin (by omega); rw [(by with_reducible assumption : a = false)] at q; exact q)]; done)
    | (exact (CluB.at (by assumption) _).conf; done)
    | (rw [commitP_n (by with_reducible assumption)]; done)
    | ((have q9 := congrArg (fun x : Clu => x.now) (((congrArg Prod.fst (commitP_t (c := c) (y := y) (id := id) (by with_reducible assumption) (by have q := hQ.fin (by omega); rw [(by with_reducible assumption : a = true)] at q; exact q))).trans (hZ.fin (by omega)).symm).symm); exact q9); done)
    | ((have q9 := congrArg (fun x : Clu => x.srvs) (((congrArg Prod.fst (commitP_t (c := c) (y := y) (id := id) (by with_reducible assumption) (by have q := hQ.fin (by omega); rw [(by with_reducible assumption : a = true)] at q; exact q))).trans (hZ.fin (by omega)).symm).symm); exact q9); done)
    | ((have q9 := congrArg (fun x : Clu => x.sides) (((congrArg Prod.fst (commitP_t (c := c) (y := y) (id := id) (by with_reducible assumption) (by have q := hQ.fin (by omega); rw [(by with_reducible assumption : a = true)] at q; exact q))).trans (hZ.fin (by omega)).symm).symm); exact q9); done)
    | ((have q9 := congrArg (fun x : Clu => x.mast.confs) (((congrArg Prod.fst (commitP_t (c := c) (y := y) (id := id) (by with_reducible assumption) (by have q := hQ.fin (by omega); rw [(by with_reducible assumption : a = true)] at q; exact q))).trans (hZ.fin (by omega)).symm).symm); exact q9); done)
    | ((have q9 := congrArg (fun x : Clu => x.mast.act) (((congrArg Prod.fst (commitP_t (c := c) (y := y) (id := id) (by with_reducible assumption) (by have q := hQ.fin (by omega); rw [(by with_reducible assumption : a = true)] at q; exact q))).trans (hZ.fin (by omega)).symm).symm); exact q9); done)
    | ((have q9 := congrArg (fun x : Clu => x.mup) (((congrArg Prod.fst (commitP_t (c := c) (y := y) (id := id) (by with_reducible assumption) (by have q := hQ.fin (by omega); rw [(by with_reducible assumption : a = true)] at q; exact q))).trans (hZ.fin (by omega)).symm).symm); exact q9); done)
    | ((have q9 := congrArg (fun x : Clu => x.lse.epoch) (((congrArg Prod.fst (commitP_t (c := c) (y := y) (id := id) (by with_reducible assumption) (by have q := hQ.fin (by omega); rw [(by with_reducible assumption : a = true)] at q; exact q))).trans (hZ.fin (by omega)).symm).symm); exact q9); done)
    | ((have q9 := congrArg (fun x : Clu => x.lse.holder) (((congrArg Prod.fst (commitP_t (c := c) (y := y) (id := id) (by with_reducible assumption) (by have q := hQ.fin (by omega); rw [(by with_reducible assumption : a = true)] at q; exact q))).trans (hZ.fin (by omega)).symm).symm); exact q9); done)
    | ((have q9 := congrArg (fun x : Clu => x.lse.til) (((congrArg Prod.fst (commitP_t (c := c) (y := y) (id := id) (by with_reducible assumption) (by have q := hQ.fin (by omega); rw [(by with_reducible assumption : a = true)] at q; exact q))).trans (hZ.fin (by omega)).symm).symm); exact q9); done)
    | ((have q9 := congrArg (fun x : Clu => x.plcs) (((congrArg Prod.fst (commitP_t (c := c) (y := y) (id := id) (by with_reducible assumption) (by have q := hQ.fin (by omega); rw [(by with_reducible assumption : a = true)] at q; exact q))).trans (hZ.fin (by omega)).symm).symm); exact q9); done)
    | fail)
end
section
attribute [local go_sem] mdG_eq mdM toNat_pred setI List.length_set mdI_eq mdL_eq Bool.not_true Bool.not_false
theorem clientOp_s (c : Clu) (id : Int) (o : ROp) (hB : CluB c) : Fn Go.Proofs.Tryz.prog 21 [.a (eClu false c), .c (.v (vi id)), .a (eROp o)] [.a [.d, .d, .d, .d, .d, .d, .d, .d, .d, .d], .c .d, .a [.d, .d, .d, .d, .d, .d]] [.a (eClu true ((clientOp c id o).1)), .a (eRep ((clientOp c id o).2))] := by
  refine E.Fn.ev (n := 72) mdI false mix Go.Proofs.Tryz.func21 rfl (by simp [Go.Proofs.Tryz.f21]) Go.Proofs.Tryz.ntmps21 (by simp) (by kernel_rfl) (rs := [.cell 6 45, .cell 7 36]) (tys := [45, 36]) rfl rfl (by simp [finOK, A.ts, OWN, ownE, ownT]) (by simp [resOK, A.ts, OWN, ownE, ownT, DE]) ?_
  simp only [go_sem]
  repeat' (first
    | simp only [IJS]
    | (refine E.CALL.use (appOn_s _ _ _ ?_) ?_ <;> (try simp only [go_sem]))
    | (refine E.CALL.use (findOp_s _ _ _ ?_) ?_ <;> (try simp only [go_sem]))
    | (refine E.CALL.use (commitP_s _ _ ?_) ?_ <;> (try simp only [go_sem]))
    | (refine E.CALL.use (resAt_s _ _ ?_) ?_ <;> (try simp only [go_sem]))
    | (refine E.GB.use (fun h => ?_) (fun h => ?_) <;> (simp only [go_sem, h]) <;> (try simp only [HFS] at h))
    | exact E.INDEP.mk2 (by kernel_rfl)
    | (refine E.IX_map ?_ (fun hx => ?_); rotate_left; simp only [go_sem])
    | apply And.intro
    | omega
    | refine congrArg (List.map _) ?_
    | (have q := co_id (c := c) (id := id) (o := o) (by with_reducible assumption); omega; done)
    | (exact appendOn_B hB; done)
    | (exact (CluB.at (appendOn_B hB) _).log; done)
    | (exact (CluB.at (commitP_B (appendOn_B hB)) _).log; done)
    | ((rw [co_n (by with_reducible assumption)] <;> rfl); done)
    | ((rw [co_p (by with_reducible assumption) (by omega) (by with_reducible assumption)] <;> rfl); done)
    | ((rw [co_c (by with_reducible assumption) (by omega) (by with_reducible assumption)] <;> rfl); done)
    | ((rw [co_y (by with_reducible assumption) (by omega)] <;> rfl); done)
    | fail)
theorem clientOp_i (c : Clu) (id : Int) (o : ROp) (hB : CluB c) : Fn Go.Proofs.Tryz.prog 22 [.a (eClu false c), .c (.v (vi id)), .a (eROp o)] [.a [.d, .d, .d, .d, .d, .d, .d, .d, .d, .d], .c .d, .a [.d, .d, .d, .d, .d, .d]] [.a (eClu true ((clientOp c id o).1)), .a (eRep ((clientOp c id o).2))] := by
  refine E.Fn.ev (n := 70) mdI false mix Go.Proofs.Tryz.func22 rfl (by simp [Go.Proofs.Tryz.f22]) Go.Proofs.Tryz.ntmps22 (by simp) (by kernel_rfl) (rs := [.cell 6 45, .cell 7 36]) (tys := [45, 36]) rfl rfl (by simp [finOK, A.ts, OWN, ownE, ownT]) (by simp [resOK, A.ts, OWN, ownE, ownT, DE]) ?_
  simp only [go_sem]
  repeat' (first
    | simp only [IJS]
    | (refine E.CALL.use (appOn_i _ _ _ ?_) ?_ <;> (try simp only [go_sem]))
    | (refine E.CALL.use (findOp_i _ _ _ ?_) ?_ <;> (try simp only [go_sem]))
    | (refine E.CALL.use (commitP_i _ _ ?_) ?_ <;> (try simp only [go_sem]))
    | (refine E.CALL.use (resAt_i _ _ ?_) ?_ <;> (try simp only [go_sem]))
    | (refine E.GB.use (fun h => ?_) (fun h => ?_) <;> (simp only [go_sem, h]) <;> (try simp only [HFS] at h))
    | exact E.INDEP.mk2 (by kernel_rfl)
    | (refine E.IX_map ?_ (fun hx => ?_); rotate_left; simp only [go_sem])
    | apply And.intro
    | omega
    | refine congrArg (List.map _) ?_
    | (have q := co_id (c := c) (id := id) (o := o) (by with_reducible assumption); omega; done)
    | (exact appendOn_B hB; done)
    | (exact (CluB.at (appendOn_B hB) _).log; done)
    | (exact (CluB.at (commitP_B (appendOn_B hB)) _).log; done)
    | ((rw [co_n (by with_reducible assumption)] <;> rfl); done)
    | ((rw [co_p (by with_reducible assumption) (by omega) (by with_reducible assumption)] <;> rfl); done)
    | ((rw [co_c (by with_reducible assumption) (by omega) (by with_reducible assumption)] <;> rfl); done)
    | ((rw [co_y (by with_reducible assumption) (by omega)] <;> rfl); done)
    | fail)
end
section
attribute [local go_sem] mdG_eq mdM toNat_pred setI List.length_set mdI_eq mdL_eq Bool.not_true Bool.not_false
theorem retry_s (c : Clu) (ids : List Int) (o : ROp) (hB : CluB c) (hl : ids.length ≤ 1048576) : Fn Go.Proofs.Tryz.prog 23 [.a (eClu false c), .c (.s false 1 (ids.map eInt)), .a (eROp o)] [.a [.d, .d, .d, .d, .d, .d, .d, .d, .d, .d], .c .d, .a [.d, .d, .d, .d, .d, .d]] [.a (eClu true ((retryOp c ids o).1)), .a (eRep ((retryOp c ids o).2))] := by
  refine E.Fn.ev (n := 45) mdI false mix Go.Proofs.Tryz.func23 rfl (by simp [Go.Proofs.Tryz.f23]) Go.Proofs.Tryz.ntmps23 (by simp) (by kernel_rfl) (rs := [.cell 6 45, .cell 7 36]) (tys := [45, 36]) rfl rfl (by simp [finOK, A.ts, OWN, ownE, ownT]) (by simp [resOK, A.ts, OWN, ownE, ownT, DE]) ?_
  simp only [go_sem]
  repeat' (first
    | simp only [IJS]
    | (refine E.CALL.use (copyU_s_B _ ?_) ?_ <;> (try simp only [go_sem]))
    | (refine E.CALL.use (clientOp_s _ _ _ ?_) ?_ <;> (try simp only [go_sem]))
    | (refine E.GB.use (fun h => ?_) (fun h => ?_) <;> (simp only [go_sem, h]) <;> (try simp only [HFS] at h))
    | exact E.INDEP.mk2 (by kernel_rfl)
    | exact E.RK.mk (by kernel_rfl)
    | (refine E.IX_map ?_ (fun hx => ?_); rotate_left; simp only [go_sem])
    | (refine E.loopR (ι := Nat × Nat × Nat × Clu × Rep) 4 rfl (fun ⟨i, v, v2, x, r⟩ => [(.s 10, .v (.c (.v (vi i)))), (.k (8, 0), .e ⟨v, 10, [[.v (vi x.now), .s true 12 (x.srvs.map (eSrv true)), .s true 1 (x.sides.map eInt), .s true 4 (x.mast.confs.map (eConf true)), .v (vi x.mast.act), .v (vi x.mup), .v (vi x.lse.epoch), .v (vi x.lse.holder), .v (vi x.lse.til), .s true 3 (x.plcs.map ePlc)]]⟩), (.k (9, 0), .e ⟨v2, 4, [[.v (vi r.code), .v (.bool r.res.done), .v (vi r.res.val), .v (vi r.idx)]]⟩)]) [1, 5, 6, 7, 8, 9, 43, 44] [(8, 0), (9, 0)] [] (fun ⟨i, v, v2, x, r⟩ => ids.length - i) (fun ⟨i, v, v2, x, r⟩ => i ≤ ids.length ∧ i ≤ 10 ∧ RetI c ids o i x r) mix (by kernel_rfl) (0, 1, 0, c, rep0 1) ?_ ?_ (fun ⟨i, v, v2, x, r⟩ ⟨hi, hi2, hQ⟩ => ?_); all_goals (try simp (maxSteps := 900000) only [go_sem]); all_goals (try dsimp only at hi hi2 hQ))
    | (refine E.NEXT.use [] (i + 1, v + 1, v2, (clientOp x (at' ids i) o).1, (clientOp x (at' ids i) o).2) ?_ ?_ ?_; rotate_left 2; focus (simp (maxSteps := 900000) only [go_sem]; (repeat' (first | with_reducible rfl | exact E.RK.mk (by kernel_rfl) | apply And.intro | (push_cast; with_reducible rfl) | (refine E.int_c ?_; omega) | (simp only [go_sem]; done) | (rw [List.map_append]; rfl) | (simp; done) | (simp only [*]; done) | fail)); done))
    | apply And.intro
    | omega
    | refine congrArg (List.map _) ?_
    | (exact .start hB; done)
    | (exact hQ.b; done)
    | (rfl; done)
    | (exact hQ.next (by omega) (by omega) (by with_reducible assumption); done)
    | ((rw [hQ.hit (by omega) (by omega) (by with_reducible assumption)] <;> rfl); done)
    | ((rw [hQ.fin (.inl (by omega))] <;> rfl); done)
    | ((rw [hQ.fin (.inr (by omega))] <;> rfl); done)
    | fail)
theorem retry_i (c : Clu) (ids : List Int) (o : ROp) (hB : CluB c) (hl : ids.length ≤ 1048576) : Fn Go.Proofs.Tryz.prog 25 [.a (eClu false c), .c (.s false 1 (ids.map eInt)), .a (eROp o)] [.a [.d, .d, .d, .d, .d, .d, .d, .d, .d, .d], .c .d, .a [.d, .d, .d, .d, .d, .d]] [.a (eClu true ((retryOp c ids o).1)), .a (eRep ((retryOp c ids o).2))] := by
  refine E.Fn.ev (n := 38) mdI false mix Go.Proofs.Tryz.func25 rfl (by simp [Go.Proofs.Tryz.f25]) Go.Proofs.Tryz.ntmps25 (by simp) (by kernel_rfl) (rs := [.cell 6 45, .cell 7 36]) (tys := [45, 36]) rfl rfl (by simp [finOK, A.ts, OWN, ownE, ownT]) (by simp [resOK, A.ts, OWN, ownE, ownT, DE]) ?_
  simp only [go_sem]
  repeat' (first
    | simp only [IJS]
    | (refine E.CALL.use (copyU_i_B _ ?_) ?_ <;> (try simp only [go_sem]))
    | (refine E.CALL.use (clientOp_i _ _ _ ?_) ?_ <;> (try simp only [go_sem]))
    | (refine E.GB.use (fun h => ?_) (fun h => ?_) <;> (simp only [go_sem, h]) <;> (try simp only [HFS] at h))
    | exact E.INDEP.mk2 (by kernel_rfl)
    | exact E.RK.mk (by kernel_rfl)
    | (refine E.IX_map ?_ (fun hx => ?_); rotate_left; simp only [go_sem])
    | (refine E.loopR (ι := Nat × Nat × Nat × Clu × Rep) 3 rfl (fun ⟨i, v, v2, x, r⟩ => [(.s 21, .v (.c (.v (vi i)))), (.k (8, 0), .e ⟨v, 10, [[.v (vi x.now), .s true 12 (x.srvs.map (eSrv true)), .s true 1 (x.sides.map eInt), .s true 4 (x.mast.confs.map (eConf true)), .v (vi x.mast.act), .v (vi x.mup), .v (vi x.lse.epoch), .v (vi x.lse.holder), .v (vi x.lse.til), .s true 3 (x.plcs.map ePlc)]]⟩), (.k (9, 0), .e ⟨v2, 4, [[.v (vi r.code), .v (.bool r.res.done), .v (vi r.res.val), .v (vi r.idx)]]⟩)]) [5, 6, 7, 8, 9, 19, 20, 36, 37] [(8, 0), (9, 0)] [] (fun ⟨i, v, v2, x, r⟩ => ids.length - i) (fun ⟨i, v, v2, x, r⟩ => i ≤ ids.length ∧ i ≤ 10 ∧ RetI c ids o i x r) mix (by kernel_rfl) (0, 1, 0, c, rep0 1) ?_ ?_ (fun ⟨i, v, v2, x, r⟩ ⟨hi, hi2, hQ⟩ => ?_); all_goals (try simp (maxSteps := 900000) only [go_sem]); all_goals (try dsimp only at hi hi2 hQ))
    | (refine E.NEXT.use [] (i + 1, v + 1, v2, (clientOp x (at' (List.take (if (10 : Int) < (ids.length : Int) then 10 else (ids.length : Int)).toNat ids) i) o).1, (clientOp x (at' (List.take (if (10 : Int) < (ids.length : Int) then 10 else (ids.length : Int)).toNat ids) i) o).2) ?_ ?_ ?_; rotate_left 2; focus (simp (maxSteps := 900000) only [go_sem]; (repeat' (first | with_reducible rfl | exact E.RK.mk (by kernel_rfl) | apply And.intro | (push_cast; with_reducible rfl) | (refine E.int_c ?_; omega) | (simp only [go_sem]; done) | (rw [List.map_append]; rfl) | (simp; done) | (simp only [*]; done) | fail)); done))
    | apply And.intro
    | omega
    | refine congrArg (List.map _) ?_
    | (exact .start hB; done)
    | (exact hQ.b; done)
    | (rfl; done)
    | ((have q := tk_lt (by with_reducible assumption); omega); done)
    | (exact hQ.nextT (by with_reducible assumption) (by with_reducible assumption); done)
    | ((rw [hQ.hitT (by with_reducible assumption) (by with_reducible assumption)] <;> rfl); done)
    | ((rw [hQ.fin (tk_ge (by with_reducible assumption))] <;> rfl); done)
    | fail)
end
end Go.Abs

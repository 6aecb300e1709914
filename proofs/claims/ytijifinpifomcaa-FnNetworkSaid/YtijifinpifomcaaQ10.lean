/- Contracts of functions of the program, over the abstract machine, and facts for them. No condition. -/
import Derived.Test.YtijifinpifomcaaFacts
import Derived.Test.YtijifinpifomcaaPure27
import Derived.Test.YtijifinpifomcaaQ3
import Derived.Test.YtijifinpifomcaaQ8
set_option linter.unusedVariables false
set_option linter.unusedSimpArgs false
set_option linter.unnecessarySimpa false
set_option linter.constructorNameAsVariable false
set_option maxHeartbeats 4000000
set_option maxRecDepth 100000
namespace Go.Abs
open Go
attribute [local go_sem ↓] E.argsA_h E.wq_ret E.wq_req E.wq_bad E.wq_call E.wq_get E.wq_getO E.wq_getOs E.wq_getPs E.wq_fresh E.wq_anyNil E.wq_getR0 E.wq_getR E.wq_ixM E.wq_n E.wq_g E.wq_gn E.ev_skip E.ev_region E.ev_draw E.ev_seq E.ev_cond E.ev_block E.ev_exit E.ev_ret E.sq_n E.sq_e E.sq_r E.bl_n E.bl_e E.bl_r E.lp_n E.lp_e E.lp_r E.fk_n E.fk_r E.q_move E.q_assign E.q_pick E.q_bin E.q_binw E.q_un E.q_alloc E.q_box E.q_build E.q_buildS E.q_makeS E.q_load E.q_store E.q_nilCheck E.q_slice E.q_fieldAddr E.q_field E.q_indexAddr E.q_extract E.q_makeFunc E.q_call E.q_callT E.q_len E.q_append E.q_min E.q_max E.q_convert E.q_cap E.q_clear appendIM appendZM E.b_add E.b_sub E.b_mul E.b_eql E.b_neq E.b_lss E.b_leq E.b_gtr E.b_geq E.GO_tmp E.GO_int E.GO_bool E.GO_str E.GO_nil E.GO_func E.GOs_nil E.GOs_cons E.GPs_nil E.GPs_cons E.RW_nil E.RW_cons E.dstAt_0 E.dstAt_s E.keepL_nil E.keepL_s E.keepL_k E.rmN_nil E.rmN_cons E.memN_nil E.memN_cons E.memK_nil E.memK_cons E.ovl_nil E.ovl_kk E.ovl_sk E.ovl_ks E.ovl_ss ofL_s ofL_sk ofL_ks ofL_k ofL_nil E.CO_tmp E.CO_bool
attribute [local go_sem] E.RM_nil E.RM_cons E.kd_k E.sbr_eq E.s3_nil E.s3_s E.s3_k E.vr_c E.vr_a E.vr_p E.vr_q E.vr_t E.vr_f E.vr_u E.cr_r E.cr_v E.cr_b E.cr_n E.cr_u E.crs_nil E.crs_cons E.renK_nil E.renK_cons keysVs V.keys C.keys keysCs E.RG_nil E.RG_cons E.GV_v E.GB_true E.GB_false E.GX_b E.GG_t E.GG_f E.GG_u E.GU_some E.IX_0 E.IX_s E.CX_s E.FR_none E.EN_e E.GVB_b E.b_boolM E.b_nilM E.b_strM E.b_aggM
attribute [local go_sem] List.cons_append List.nil_append List.append_nil List.length_cons List.length_nil List.length_map List.length_append callM E.argsH_nil E.argsH_cons E.argH_c E.argH_a E.argH_f E.argH_p ptrH_s E.cellsH_nil E.cellsH_cons E.cellH_v E.cellH_b E.cellH_n E.cellH_nt E.cellH_u E.cellH_rt E.cellH_rf capsA capA callable backs backT resVs resV resC tupV lenV intV boolV getE getO entryL entryKs A.ts entryV entryC entryCs entryCap List.map_cons List.map_nil E.cut_n E.cut_r E.cutM plainL A.lastOK T.lastOK Bool.false_or A.capOK szEs szE szT SZ whole toB toC List.drop_zero List.take_zero List.take_succ_cons List.drop_succ_cons resultsM resultM outM outM1 convs conv finAs finA finT finTs Int.toNat_natCast A.plain T.plain List.isEmpty_nil List.isEmpty_cons Bool.or_true Bool.true_or Bool.and_self List.getElem?_cons_zero List.getElem?_cons_succ Option.bind_some Option.bind_none Option.bind Nat.zero_add Nat.add_zero OWN BOR ONE SCAL DE ETA E.take_rest Int.toNat_zero E.take_map E.drop_map E.take_len1 List.take_length E.app_map Int.natCast_zero Int.sub_zero Int.toNat_sub partCells V.cells convsL appendM srcM E.scalEs_nil E.scalEs_cons E.oneEs_nil E.oneEs_cons List.all_cons List.all_nil T.one Bool.and_true gone ownEs ownE ownT borEs borE borT setRow splice List.set_cons_zero List.set_cons_succ optI getOpt sliceM ptrTo app_ofL T.isV Value.oneCell' fillC zeroC spliceC allV eqVs eqV minV maxV setAt setCell holed List.dropLast List.getLast?_singleton Option.getD_some Option.isSome_some Option.isSome_none Bool.and_false Bool.true_and Bool.false_and Option.map_some Option.map_none false_or true_or or_true rowAt cellAt E.constV_nil E.constV_int E.constV_bool E.constV_str E.setCell_set E.setCell_len setRow setAt List.dropLast_cons_cons List.dropLast_singleton List.getLast?_cons_cons
attribute [local go_sem_proc ↓] reduceIte
attribute [local go_sem_proc] Nat.reduceEqDiff reduceCtorEq Nat.reduceAdd Nat.reduceMul
attribute [local irreducible] E.argsH E.argH E.cellsH E.cellH E.GV E.GB E.GX E.GG E.GU E.IX E.CX E.RW E.FR E.EN E.CALL E.GO E.GOs E.GPs E.GVB E.KD E.RM E.RG E.CO E.WQ E.EV E.SQ E.BL E.LP E.FK E.S3 E.RK E.NEXT E.NQ E.INDEP
section
attribute [local go_sem] mdG_eq mdM toNat_pred setI List.length_set
theorem idxF_I0  (l : List Int) (p : Int → Bool) (f : Nat) (hl : l.length ≤ 1048576) (hp : ∀ x ∈ l, Fn Go.Proofs.Try.prog f [.c (.v (vi x))] [.c .d] [.c (.v (.bool (p x)))]) : Fn Go.Proofs.Try.prog 29 [.c (.s false 1 (l.map eInt)), .f f []] [.c .d, .f f []] [.c (.v (vi (idxF p 0 l)))] := by
  refine E.Fn.ev (n := 19) mdG false mix Go.Proofs.Try.func29 rfl (by simp [Go.Proofs.Try.f29]) Go.Proofs.Try.ntmps29 (by simp) (by kernel_rfl) (rs := [.tmp 4]) (tys := [3]) rfl rfl (by simp [finOK, A.ts, OWN, ownE, ownT]) (by simp [resOK, A.ts, OWN, ownE, ownT, DE]) ?_
  simp only [go_sem]
  repeat' (first
    | simp only [IJS]
    | (refine E.CALL.use (hp _ ?_) ?_ <;> (try simp only [go_sem]))
    | (refine E.GB.use (fun h => ?_) (fun h => ?_) <;> (simp only [go_sem, h]) <;> (try simp only [HFS] at h))
    | exact E.RK.mk (by kernel_rfl)
    | (refine E.IX_map ?_ (fun hx => ?_); rotate_left; simp only [go_sem])
    | (refine E.loopR (ι := Nat) 2 rfl (fun i => [(.s 8, .v (.c (.v (vi i))))]) [0, 1, 7] [] [] (fun i => l.length - i) (fun i => i ≤ l.length ∧ idxF p i (l.drop i) = idxF p 0 l) mix (by kernel_rfl) 0 ?_ ?_ (fun i ⟨hi, hR⟩ => ?_); all_goals (try simp (maxSteps := 900000) only [go_sem]); all_goals (try dsimp only at hi hR))
    | (refine E.NEXT.use [] (i + 1) ?_ ?_ ?_; rotate_left 2; focus (simp (maxSteps := 900000) only [go_sem]; (repeat' (first | with_reducible rfl | exact E.RK.mk (by kernel_rfl) | apply And.intro | (push_cast; with_reducible rfl) | (refine E.int_c ?_; omega) | (simp only [go_sem]; done) | (rw [List.map_append]; rfl) | (simp; done) | (simp only [*]; done) | fail)); done))
    | apply And.intro
    | omega
    | (rw [drop_at (l := l) (i := i) (by omega)] at hR; simp_all [idxF]; done)
    | (rw [E.drop_end (l := l) (i := i) (by omega)] at hR; simp only [idxF] at hR; simp [← hR]; done)
    | (exact E.at_mem (by omega); done)
    | fail)
theorem anyF_I0  (l : List Int) (p : Int → Bool) (f : Nat) (hl : l.length ≤ 1048576) (hp : ∀ x ∈ l, Fn Go.Proofs.Try.prog f [.c (.v (vi x))] [.c .d] [.c (.v (.bool (p x)))]) : Fn Go.Proofs.Try.prog 24 [.c (.s false 1 (l.map eInt)), .f f []] [.c .d, .f f []] [.c (.v (.bool (l.any p)))] := by
  refine E.Fn.ev (n := 9) mdG false mix Go.Proofs.Try.func24 rfl (by simp [Go.Proofs.Try.f24]) Go.Proofs.Try.ntmps24 (by simp) (by kernel_rfl) (rs := [.tmp 4]) (tys := [4]) rfl rfl (by simp [finOK, A.ts, OWN, ownE, ownT]) (by simp [resOK, A.ts, OWN, ownE, ownT, DE]) ?_
  simp only [go_sem]
  repeat' (first
    | simp only [IJS]
    | (refine E.CALL.use (idxF_I0 l p f hl hp) ?_ <;> (try simp only [go_sem]))
    | (rw [← idxF_any p l 0]; done)
    | fail)
end
section
attribute [local go_sem] mdG_eq mdM toNat_pred setI List.length_set
def mdL (f i : Nat) : Bool := if i = 0 then (false) else false
theorem mdL_eq (f i : Nat) : mdL f i = if i = 0 then (false) else false := rfl
end
section
attribute [local go_sem] mdG_eq mdM toNat_pred setI List.length_set mdL_eq
def mdD (f i : Nat) : Bool := if i = 0 then (if f = 18 then true else if f = 27 then true else if f = 20 then true else if f = 19 then true else if f = 28 then true else false) else false
theorem mdD_eq (f i : Nat) : mdD f i = if i = 0 then (if f = 18 then true else if f = 27 then true else if f = 20 then true else if f = 19 then true else if f = 28 then true else false) else false := rfl
end
section
attribute [local go_sem] mdG_eq mdM toNat_pred setI List.length_set mdD_eq cur_eta E.b_remA eByt_eq own_eByt bor_eByt scal_eByt one_eByt sz_eByt eByt_eq E.GO_ptr E.constV_ptr E.q_convert
theorem byte_c  [Amb] (a : Option Addr) (cap : Nat) (b : List Int) (hV : LentV.view (Value.slice a b.length cap) = some (1, b.map eByt)) (hb : b.length ≤ 1048576) (c : Cur) (hc : c.i ≤ b.length) : Fn Go.Proofs.Try.prog 28 [.p 3 [[.v (.slice a b.length cap), .v (vi ((c).i : Nat)), .v (vi (c).h)]]] [.p 3 [[.v (.slice a b.length cap), .v (vi (((curB b c).2).i : Nat)), .v (vi ((curB b c).2).h)]]] [.c (.v (vi ((curB b c).1)))] := by
  refine E.Fn.ev (n := 58) mdD true mix Go.Proofs.Try.func28 rfl (by simp [Go.Proofs.Try.f28]) Go.Proofs.Try.ntmps28 (by simp) (by kernel_rfl) (rs := [.tmp 2]) (tys := [3]) rfl rfl (by simp [finOK, A.ts, OWN, ownE, ownT, ownEs]) (by simp [resOK, A.ts, OWN, ownE, ownT, DE, ownEs]) ?_
  simp only [go_sem, hV, binM, intBin]
  repeat' (first
    | simp only [IJS]
    | (refine E.GB.use (fun h => ?_) (fun h => ?_) <;> (simp only [go_sem, hV, binM, intBin, h]) <;> (try simp only [HFS] at h))
    | exact E.INDEP.mk2 (by kernel_rfl)
    | (refine E.IX_map ?_ (fun hx => ?_); rotate_left; simp only [go_sem, hV, binM, intBin])
    | (simp only [List.cons.injEq, A.p.injEq, A.c.injEq, T.v.injEq, Value.int.injEq, and_true, true_and])
    | apply And.intro
    | omega
    | ((rw [curB, if_pos (by omega)]; rfl); done)
    | ((rw [curB, if_neg (by omega)]; rfl); done)
    | (exact curB_yi hb (by with_reducible assumption); done)
    | (exact curB_ni (by with_reducible assumption); done)
    | fail)
theorem below_c (n : Int) [Amb] (a : Option Addr) (cap : Nat) (b : List Int) (hV : LentV.view (Value.slice a b.length cap) = some (1, b.map eByt)) (hb : b.length ≤ 1048576) (c : Cur) (hc : c.i ≤ b.length) (hn : n ≤ 256) : Fn Go.Proofs.Try.prog 19 [.p 3 [[.v (.slice a b.length cap), .v (vi ((c).i : Nat)), .v (vi (c).h)]], .c (.v (vi n))] [.p 3 [[.v (.slice a b.length cap), .v (vi (((below b c n).2).i : Nat)), .v (vi ((below b c n).2).h)]], .c .d] [.c (.v (vi ((below b c n).1)))] := by
  refine E.Fn.ev (n := 37) mdD false mix Go.Proofs.Try.func19 rfl (by simp [Go.Proofs.Try.f19]) Go.Proofs.Try.ntmps19 (by simp) (by kernel_rfl) (rs := [.tmp 4]) (tys := [3]) rfl rfl (by simp [finOK, A.ts, OWN, ownE, ownT, ownEs]) (by simp [resOK, A.ts, OWN, ownE, ownT, DE, ownEs]) ?_
  simp only [go_sem, hV]
  repeat' (first
    | simp only [IJS]
    | (refine E.CALL.use (byte_c a cap b hV hb ⟨_, _⟩ ?_) ?_ <;> (try simp only [go_sem, hV]))
    | (refine E.GB.use (fun h => ?_) (fun h => ?_) <;> (simp only [go_sem, hV, h]) <;> (try simp only [HFS] at h))
    | (simp only [List.cons.injEq, A.p.injEq, A.c.injEq, T.v.injEq, Value.int.injEq, and_true, true_and])
    | apply And.intro
    | omega
    | ((rw [below_0 (by omega)] <;> rfl); done)
    | ((rw [below_1 (by omega)] <;> rfl); done)
    | fail)
theorem pick_c  [Amb] (a : Option Addr) (cap : Nat) (b : List Int) (hV : LentV.view (Value.slice a b.length cap) = some (1, b.map eByt)) (hb : b.length ≤ 1048576) (c : Cur) (hc : c.i ≤ b.length) (l : List Int) (hl0 : 0 < l.length) (hl : l.length ≤ 256) : Fn Go.Proofs.Try.prog 20 [.p 3 [[.v (.slice a b.length cap), .v (vi ((c).i : Nat)), .v (vi (c).h)]], .c (.s false 1 (l.map eInt))] [.p 3 [[.v (.slice a b.length cap), .v (vi (((pickI b c l).2).i : Nat)), .v (vi ((pickI b c l).2).h)]], .c .d] [.c (.v (vi ((pickI b c l).1)))] := by
  refine E.Fn.ev (n := 12) mdD false mix Go.Proofs.Try.func20 rfl (by simp [Go.Proofs.Try.f20]) Go.Proofs.Try.ntmps20 (by simp) (by kernel_rfl) (rs := [.tmp 4]) (tys := [3]) rfl rfl (by simp [finOK, A.ts, OWN, ownE, ownT, ownEs]) (by simp [resOK, A.ts, OWN, ownE, ownT, DE, ownEs]) ?_
  simp only [go_sem, hV]
  repeat' (first
    | simp only [IJS]
    | (refine E.CALL.use (below_c _ a cap b hV hb ⟨_, _⟩ ?_ ?_) ?_ <;> (try simp only [go_sem, hV]))
    | (refine E.IX_map ?_ (fun hx => ?_); rotate_left; simp only [go_sem, hV])
    | (simp only [List.cons.injEq, A.p.injEq, A.c.injEq, T.v.injEq, Value.int.injEq, and_true, true_and])
    | apply And.intro
    | omega
    | ((have q := below_b b c (n := (l.length : Int)) (by omega); omega); done)
    | (rfl; done)
    | fail)
end
section
attribute [local go_sem] mdG_eq mdM toNat_pred setI List.length_set mdD_eq cur_eta E.b_remA eByt_eq own_eByt bor_eByt scal_eByt one_eByt sz_eByt eByt_eq E.GO_ptr E.constV_ptr E.q_convert
theorem sides_c  [Amb] (a : Option Addr) (cap : Nat) (b : List Int) (hV : LentV.view (Value.slice a b.length cap) = some (1, b.map eByt)) (hb : b.length ≤ 1048576) (c : Cur) (hc : c.i ≤ b.length) : Fn Go.Proofs.Try.prog 27 [.p 3 [[.v (.slice a b.length cap), .v (vi ((c).i : Nat)), .v (vi (c).h)]]] [.p 3 [[.v (.slice a b.length cap), .v (vi (((sidesN b c 5).2).i : Nat)), .v (vi ((sidesN b c 5).2).h)]]] [.c (.s true 1 (((sidesN b c 5).1).map eInt))] := by
  refine E.Fn.ev (n := 17) mdD false mix Go.Proofs.Try.func27 rfl (by simp [Go.Proofs.Try.f27]) Go.Proofs.Try.ntmps27 (by simp) (by kernel_rfl) (rs := [.tmp 2]) (tys := [24]) rfl rfl (by simp [finOK, A.ts, OWN, ownE, ownT, ownEs]) (by simp [resOK, A.ts, OWN, ownE, ownT, DE, ownEs]) ?_
  simp only [go_sem, hV]
  repeat' (first
    | simp only [IJS]
    | (refine E.CALL.use (pick_c a cap b hV hb ⟨_, _⟩ ?_ [0, 0, 0, 1, 2] (by decide) (by decide)) ?_ <;> (try simp only [go_sem, hV]))
    | (refine E.GB.use (fun h => ?_) (fun h => ?_) <;> (simp only [go_sem, hV, h]) <;> (try simp only [HFS] at h))
    | exact E.RK.mk (by kernel_rfl)
    | (refine E.loopR (ι := Nat × Nat) 3 rfl (fun ⟨i, v⟩ => [(.s 4, .v (.c (.v (vi i)))), (.s 3, .v (.c (.r (5, 0) 0 [] 0 ((sidesN b c i).1).length))), (.k (5, 0), .e ⟨0, 1, ((sidesN b c i).1).map eInt⟩), (.k (0, 0), .e ⟨v, 3, [[.v (.slice a b.length cap), .v (vi ((sidesN b c i).2.i : Nat)), .v (vi (sidesN b c i).2.h)]]⟩)]) [0, 2, 16] [(0, 0), (5, 0)] [] (fun ⟨i, v⟩ => 5 - i) (fun ⟨i, v⟩ => i ≤ 5 ∧ v = v) mix (by kernel_rfl) (0, 0) ?_ ?_ (fun ⟨i, v⟩ ⟨hi, hv⟩ => ?_); all_goals (try simp (maxSteps := 900000) only [go_sem, hV]); all_goals (try dsimp only at hi hv))
    | (refine E.NEXT.use [((5, 0), (15, 0))] (i + 1, v + 1) ?_ ?_ ?_; rotate_left 2; focus (simp (maxSteps := 900000) only [go_sem, hV]; (repeat' (first | with_reducible rfl | exact E.RK.mk (by kernel_rfl) | apply And.intro | (push_cast; with_reducible rfl) | (refine E.int_c ?_; omega) | (simp only [go_sem]; done) | (rw [List.map_append]; rfl) | (simp; done) | (simp only [*]; done) | (rw [List.map_append]; rfl; done) | ((simp [sidesN, pickI, eInt]; done); done) | fail)); done))
    | (simp only [List.cons.injEq, A.p.injEq, A.c.injEq, T.v.injEq, Value.int.injEq, and_true, true_and])
    | apply And.intro
    | omega
    | (push_cast; with_reducible rfl)
    | refine congrArg (List.map _) ?_
    | (exact sidesN_i b c hc _; done)
    | (rw [sidesN_len]; omega; done)
    | ((have e : i = 5 := (by omega); subst e; rfl); done)
    | (rfl; done)
    | fail)
end
section
attribute [local go_sem] mdG_eq mdM toNat_pred setI List.length_set mdD_eq cur_eta E.b_remA eByt_eq own_eByt bor_eByt scal_eByt one_eByt sz_eByt eByt_eq E.GO_ptr E.constV_ptr E.q_convert
attribute [local irreducible] sidesN curB below pickI sidesAny
theorem sidesAny_c  [Amb] (a : Option Addr) (cap : Nat) (b : List Int) (hV : LentV.view (Value.slice a b.length cap) = some (1, b.map eByt)) (hb : b.length ≤ 1048576) (c : Cur) (hc : c.i ≤ b.length) : Fn Go.Proofs.Try.prog 18 [.p 3 [[.v (.slice a b.length cap), .v (vi ((c).i : Nat)), .v (vi (c).h)]]] [.p 3 [[.v (.slice a b.length cap), .v (vi (((sidesAny b c).2).i : Nat)), .v (vi ((sidesAny b c).2).h)]]] [.c (.s true 1 (((sidesAny b c).1).map eInt))] := by
  refine E.Fn.evR (n := 20) Go.Proofs.Try.func18 rfl (by simp [Go.Proofs.Try.f18]) Go.Proofs.Try.ntmps18 (by simp) (rs := [.tmp 2]) (tys := [24]) rfl rfl (by simp [finOK, A.ts, OWN, ownE, ownT, ownEs]) (by simp [resOK, A.ts, OWN, ownE, ownT, DE, ownEs]) (fun H => ?_)
  simp only [go_sem, hV, sidesN5]
  repeat' (first
    | simp only [IJS]
    | (refine E.CALL.use (sides_c a cap b hV hb ⟨_, _⟩ ?_) ?_ <;> (try simp only [go_sem, hV, sidesN5]))
    | (refine E.CALL.use (below_c _ a cap b hV hb ⟨_, _⟩ ?_ ?_) ?_ <;> (try simp only [go_sem, hV, sidesN5]))
    | (refine E.CALL.use (pick_c a cap b hV hb ⟨_, _⟩ ?_ [-1, 3, 4] (by decide) (by decide)) ?_ <;> (try simp only [go_sem, hV, sidesN5]))
    | (refine E.evh_recut 3 1 (5, 0) (5, 9) (by decide) (by decide) rfl rfl rfl ?_ ?_ ?_; rotate_left 2; simp only [go_sem, hV, sidesN5])
    | (refine E.evh_ret ?_; simp only [go_sem, hV, sidesN5])
    | (refine E.evh_seq ?_; refine E.evh_ev mdD false mix (by kernel_rfl) ?_; simp only [go_sem, hV, sidesN5])
    | (refine E.GB.use (fun h => ?_) (fun h => ?_) <;> (simp only [go_sem, hV, sidesN5, h]) <;> (try simp only [HFS] at h))
    | (refine E.IX_map ?_ (fun hx => ?_); rotate_left; simp only [go_sem, hV, sidesN5])
    | (simp only [List.cons.injEq, A.p.injEq, A.c.injEq, T.v.injEq, Value.int.injEq, and_true, true_and])
    | apply And.intro
    | omega
    | (push_cast; with_reducible rfl)
    | refine congrArg (List.map _) ?_
    | (exact sidesN_i b c hc _; done)
    | (exact below_i _ _ _ (sidesN_i b c hc _); done)
    | (exact scal_eInt _; done)
    | ((rw [sidesN5]; omega); done)
    | ((have q := sidesN5 b c; simp only [List.length_map, List.length_take, List.length_drop]; omega); done)
    | ((rw [sa_0 (by with_reducible assumption)] <;> rfl); done)
    | ((rw [sa_1 (by with_reducible assumption)] <;> rfl); done)
    | ((rw [sa_2 (by with_reducible assumption) (by with_reducible assumption)] <;> rfl); done)
    | ((rw [sa_0 (by with_reducible assumption), List.take_of_length_le (by have q := sidesN5 b c; simp; omega)]); done)
    | fail)
end
section
attribute [local go_sem] mdG_eq mdM toNat_pred setI List.length_set mdD_eq cur_eta E.b_remA eByt_eq own_eByt bor_eByt scal_eByt one_eByt sz_eByt eByt_eq E.GO_ptr E.constV_ptr E.q_convert
attribute [local irreducible] cur0
theorem new_c  [Amb] (a : Option Addr) (cap : Nat) (b : List Int) (hV : LentV.view (Value.slice a b.length cap) = some (1, b.map eByt)) (hb : b.length ≤ 1048576) : Fn Go.Proofs.Try.prog 17 [.c (.v (.slice a b.length cap))] [.c .d] [.p 3 [[.v (.slice a b.length cap), .v (vi ((cur0 b).i : Nat)), .v (vi (cur0 b).h)]]] := by
  refine E.Fn.ev (n := 32) mdD true mix Go.Proofs.Try.func17 rfl (by simp [Go.Proofs.Try.f17]) Go.Proofs.Try.ntmps17 (by simp) (by kernel_rfl) (rs := [.tmp 2]) (tys := [35]) rfl rfl (by simp [finOK, A.ts, OWN, ownE, ownT, ownEs]) (by simp [resOK, A.ts, OWN, ownE, ownT, DE, ownEs]) ?_
  simp only [go_sem, hV, binM, intBin]
  repeat' (first
    | simp only [IJS]
    | (refine E.GB.use (fun h => ?_) (fun h => ?_) <;> (simp only [go_sem, hV, binM, intBin, h]) <;> (try simp only [HFS] at h))
    | exact E.RK.mk (by kernel_rfl)
    | (refine E.IX_map ?_ (fun hx => ?_); rotate_left; simp only [go_sem, hV, binM, intBin])
    | (refine E.loopR (ι := Nat × Int) 3 rfl (fun ⟨i, h⟩ => [(.s 4, .v (.c (.v (vi i)))), (.s 3, .v (.c (.v (vi h))))]) [0, 2, 28, 29, 30, 31] [] [] (fun ⟨i, h⟩ => b.length - i) (fun ⟨i, h⟩ => i ≤ b.length ∧ i ≤ 4000 ∧ h = seedN b i) mix (by kernel_rfl) (0, seedN b 0) ?_ ?_ (fun ⟨i, h⟩ ⟨hi, hi2, hh⟩ => ?_); all_goals (try simp (maxSteps := 900000) only [go_sem, hV, binM, intBin]); all_goals (try dsimp only at hi hi2 hh))
    | (refine E.NEXT.use [] (i + 1, seedN b (i + 1)) ?_ ?_ ?_; rotate_left 2; focus (simp (maxSteps := 900000) only [go_sem, hV, binM, intBin]; (repeat' (first | with_reducible rfl | exact E.RK.mk (by kernel_rfl) | apply And.intro | (push_cast; with_reducible rfl) | (refine E.int_c ?_; omega) | (simp only [go_sem]; done) | (rw [List.map_append]; rfl) | (simp; done) | (simp only [*]; done) | ((refine E.int_c ?_; rw [wrap64_id (n := (i : Int) + 1) (by omega) (by omega)]; rfl); done) | ((refine E.int_c ?_; subst hh; rfl); done) | fail)); done))
    | (simp only [List.cons.injEq, A.p.injEq, A.c.injEq, T.v.injEq, Value.int.injEq, and_true, true_and])
    | apply And.intro
    | omega
    | (rfl; done)
    | ((subst hh; exact cur0_h (by omega) (by omega) (by omega)); done)
    | ((unfold cur0; rfl); done)
    | fail)
end
section
attribute [local go_sem] mdG_eq mdM toNat_pred setI List.length_set mdD_eq cur_eta E.b_remA eByt_eq own_eByt bor_eByt scal_eByt one_eByt sz_eByt eByt_eq E.GO_ptr E.constV_ptr E.q_convert
attribute [local irreducible] sidesN curB below pickI sidesAny cur0
theorem drawMove_c  [Amb] (a : Option Addr) (cap : Nat) (b : List Int) (hV : LentV.view (Value.slice a b.length cap) = some (1, b.map eByt)) (hb : b.length ≤ 1048576) : Fn Go.Proofs.Try.prog 5 [.c (.v (.slice a b.length cap))] [.c .d] [.c (.s true 1 (((drawMove b).1).map eInt)), .c (.v (vi ((drawMove b).2.1))), .c (.v (vi ((drawMove b).2.2)))] := by
  refine E.Fn.ev (n := 16) mdD false mix Go.Proofs.Try.func5 rfl (by simp [Go.Proofs.Try.f5]) Go.Proofs.Try.ntmps5 (by simp) (by kernel_rfl) (rs := [.tmp 2, .tmp 3, .tmp 4]) (tys := [24, 3, 3]) rfl rfl (by simp [finOK, A.ts, OWN, ownE, ownT, ownEs]) (by simp [resOK, A.ts, OWN, ownE, ownT, DE, ownEs]) ?_
  simp only [go_sem, hV]
  repeat' (first
    | simp only [IJS]
    | (refine E.CALL.use (new_c a cap b hV hb) ?_ <;> (try simp (maxSteps := 900000) only [go_sem, hV]))
    | (refine E.CALL.use (sidesAny_c a cap b hV hb (cur0 b) ?_) ?_ <;> (try simp (maxSteps := 900000) only [go_sem, hV]))
    | (refine E.CALL.use (below_c _ a cap b hV hb (sidesAny b (cur0 b)).2 ?_ ?_) ?_ <;> (try simp (maxSteps := 900000) only [go_sem, hV]))
    | (refine E.CALL.use (pick_c a cap b hV hb (below b (sidesAny b (cur0 b)).2 7).2 ?_ [0, 1, 3, 4, -1] (by decide) (by decide)) ?_ <;> (try simp (maxSteps := 900000) only [go_sem, hV]))
    | apply And.intro
    | omega
    | (push_cast; with_reducible rfl)
    | refine congrArg (List.map _) ?_
    | (exact cur0_i b; done)
    | (exact sidesAny_i b _ (cur0_i b); done)
    | (exact below_i _ _ _ (sidesAny_i b _ (cur0_i b)); done)
    | ((have q := below_b b (sidesAny b (cur0 b)).2 (n := 7) (by omega); omega); done)
    | (rfl; done)
    | fail)
end
section
attribute [local go_sem] mdG_eq mdM toNat_pred setI List.length_set
theorem any_not {α : Type} (p : α → Bool) : ∀ l : List α, (!(l.any fun x => !p x)) = l.all p
  | [] => rfl
  | x :: l => by simp [← any_not p l]
end
section
attribute [local go_sem] mdG_eq mdM toNat_pred setI List.length_set
def eLI (l : List Int) : List T := [.s false 1 (l.map eInt)]
theorem eLI_eq (l : List Int) : eLI l = [.s false 1 (l.map eInt)] := rfl
def eLE (l : List LEnt) : List T := [.s false 7 (l.map eLEnt)]
theorem eLE_eq (l : List LEnt) : eLE l = [.s false 7 (l.map eLEnt)] := rfl
theorem flat_at {α : Type} : ∀ {ls : List (List α)} {i : Nat}, i < ls.length → (ls.take i).flatten.length + (at' ls i).length ≤ ls.flatten.length
  | l :: ls, 0, h => by simp [at']
  | l :: ls, i + 1, h => by
    have := flat_at (ls := ls) (i := i) (by simpa using h)
    simp only [List.take_succ_cons, List.flatten_cons, List.length_append] at this ⊢
    simp only [at', List.getD_cons_succ] at this ⊢
    omega
theorem flat_take {α : Type} {ls : List (List α)} {i : Nat} (h : i < ls.length) : (ls.take (i + 1)).flatten = (ls.take i).flatten ++ at' ls i := by
  rw [E.take_at h, List.flatten_append]; simp
end
section
attribute [local go_sem] mdG_eq mdM toNat_pred setI List.length_set eLI_eq eLE_eq
theorem notSide_c (x : Int) : Fn Go.Proofs.Try.prog 25 [.c (.v (vi x))] [.c .d] [.c (.v (.bool (!side x)))] := by
  refine E.Fn.ev (n := 6) mdG false mix Go.Proofs.Try.func25 rfl (by simp [Go.Proofs.Try.f25]) Go.Proofs.Try.ntmps25 (by simp) (by kernel_rfl) (rs := [.tmp 2]) (tys := [4]) rfl rfl (by simp [finOK, A.ts, OWN, ownE, ownT]) (by simp [resOK, A.ts, OWN, ownE, ownT, DE]) ?_
  simp only [go_sem]
  repeat' (first
    | simp only [IJS]
    | (refine E.CALL.use (in_i _ _ _) ?_ <;> (try simp only [go_sem]))
    | (simp [side]; done)
    | fail)
theorem areSides_i (l : List Int) (hl : l.length ≤ 1048576) : Fn Go.Proofs.Try.prog 9 [.c (.s false 1 (l.map eInt))] [.c .d] [.c (.v (.bool (areSides l)))] := by
  refine E.Fn.ev (n := 11) mdG false mix Go.Proofs.Try.func9 rfl (by simp [Go.Proofs.Try.f9]) Go.Proofs.Try.ntmps9 (by simp) (by kernel_rfl) (rs := [.tmp 2]) (tys := [4]) rfl rfl (by simp [finOK, A.ts, OWN, ownE, ownT]) (by simp [resOK, A.ts, OWN, ownE, ownT, DE]) ?_
  simp only [go_sem]
  repeat' (first
    | simp only [IJS]
    | (refine E.CALL.use (anyF_I0 l (fun x => !side x) 25 hl (fun x _ => notSide_c x)) ?_ <;> (try simp only [go_sem]))
    | (refine E.GB.use (fun h => ?_) (fun h => ?_) <;> (simp only [go_sem, h]) <;> (try simp only [HFS] at h))
    | (rw [any_not side l, areSides, beq_iff_eq.2 h, Bool.true_and]; done)
    | (simp_all [areSides]; done)
    | fail)
theorem sameSide_i (l : List Int) (a : Int) (b : Int) (hl : l.length ≤ 1048576) : Fn Go.Proofs.Try.prog 16 [.c (.s false 1 (l.map eInt)), .c (.v (vi a)), .c (.v (vi b))] [.c .d, .c .d, .c .d] [.c (.v (.bool (sameSide l a b)))] := by
  refine E.Fn.ev (n := 28) mdG false mix Go.Proofs.Try.func16 rfl (by simp [Go.Proofs.Try.f16]) Go.Proofs.Try.ntmps16 (by simp) (by kernel_rfl) (rs := [.tmp 6]) (tys := [4]) rfl rfl (by simp [finOK, A.ts, OWN, ownE, ownT]) (by simp [resOK, A.ts, OWN, ownE, ownT, DE]) ?_
  simp only [go_sem]
  repeat' (first
    | simp only [IJS]
    | (refine E.CALL.use (areSides_i _ ?_) ?_ <;> (try simp only [go_sem]))
    | (refine E.CALL.use (in_i _ _ _) ?_ <;> (try simp only [go_sem]))
    | (refine E.GB.use (fun h => ?_) (fun h => ?_) <;> (simp only [go_sem, h]) <;> (try simp only [HFS] at h))
    | exact E.INDEP.mk2 (by kernel_rfl)
    | (refine E.IX_map ?_ (fun hx => ?_); rotate_left; simp only [go_sem])
    | apply And.intro
    | omega
    | (have q1 := areSides_len (l := l) (by assumption); have q2 := inR_of (x := a) (by assumption); have q3 := inR_of (x := b) (by assumption); omega; done)
    | (simp [sameSide, *]; done)
    | fail)
end
section
attribute [local go_sem] mdM toNat_pred
theorem areSides_s (l : List Int) (hl : l.length ≤ 1048576) : Fn Go.Proofs.Try.prog 10 [.c (.s false 1 (l.map eInt))] [.c .d] [.c (.v (.bool (areSides l)))] := by
  refine E.Fn.ev (n := 19) mdM false mix Go.Proofs.Try.func10 rfl (by simp [Go.Proofs.Try.f10]) Go.Proofs.Try.ntmps10 (by simp) (by kernel_rfl) (rs := [.tmp 2]) (tys := [4]) rfl rfl (by simp [finOK, A.ts, OWN, ownE, ownT]) (by simp [resOK, A.ts, OWN, ownE, ownT, DE]) ?_
  simp only [go_sem]
  repeat' (first
    | simp only [IJS]
    | (refine E.CALL.use (in_s _ _ _) ?_ <;> (try simp only [go_sem]))
    | (refine E.GB.use (fun h => ?_) (fun h => ?_) <;> (simp only [go_sem, h]) <;> (try simp only [HFS] at h))
    | exact E.RK.mk (by kernel_rfl)
    | (refine E.IX_map ?_ (fun hx => ?_); rotate_left; simp only [go_sem])
    | (refine E.loopR (ι := Nat) 2 rfl (fun i => [(.s 3, .v (.c (.v (vi i))))]) [0, 16, 17, 18] [] [] (fun i => (l).length - i) (fun i => i ≤ (l).length ∧ (((l.length : Int) == 5) && (l.drop i).all side) = areSides l) mix (by kernel_rfl) 0 ?_ ?_ (fun i ⟨hi, hR⟩ => ?_); all_goals (try simp (maxSteps := 900000) only [go_sem]); all_goals (try dsimp only at hi hR))
    | (refine E.NEXT.use [] (i + 1) ?_ ?_ ?_; rotate_left 2; focus (simp (maxSteps := 900000) only [go_sem]; (repeat' (first | with_reducible rfl | exact E.RK.mk (by kernel_rfl) | apply And.intro | (push_cast; with_reducible rfl) | (refine E.int_c ?_; omega) | (simp only [go_sem]; done) | (rw [List.map_append]; rfl) | (simp; done) | (simp only [*]; done) | fail)); done))
    | apply And.intro
    | omega
    | (rw [drop_at (l := l) (i := i) (by omega)] at hR; rw [← hR]; simp [side, h]; done)
    | (rw [E.drop_end (l := l) (i := i) (by omega)] at hR; rw [← hR]; simp; done)
    | (rfl; done)
    | fail)
theorem sameSide_s (l : List Int) (a : Int) (b : Int) (hl : l.length ≤ 1048576) : Fn Go.Proofs.Try.prog 26 [.c (.s false 1 (l.map eInt)), .c (.v (vi a)), .c (.v (vi b))] [.c .d, .c .d, .c .d] [.c (.v (.bool (sameSide l a b)))] := by
  refine E.Fn.ev (n := 28) mdM false mix Go.Proofs.Try.func26 rfl (by simp [Go.Proofs.Try.f26]) Go.Proofs.Try.ntmps26 (by simp) (by kernel_rfl) (rs := [.tmp 6]) (tys := [4]) rfl rfl (by simp [finOK, A.ts, OWN, ownE, ownT]) (by simp [resOK, A.ts, OWN, ownE, ownT, DE]) ?_
  simp only [go_sem]
  repeat' (first
    | simp only [IJS]
    | (refine E.CALL.use (areSides_s _ ?_) ?_ <;> (try simp only [go_sem]))
    | (refine E.CALL.use (in_s _ _ _) ?_ <;> (try simp only [go_sem]))
    | (refine E.GB.use (fun h => ?_) (fun h => ?_) <;> (simp only [go_sem, h]) <;> (try simp only [HFS] at h))
    | exact E.INDEP.mk2 (by kernel_rfl)
    | (refine E.IX_map ?_ (fun hx => ?_); rotate_left; simp only [go_sem])
    | apply And.intro
    | omega
    | (have q1 := areSides_len (l := l) (by assumption); have q2 := inR_of (x := a) (by assumption); have q3 := inR_of (x := b) (by assumption); omega; done)
    | (simp [sameSide, *]; done)
    | fail)
end
end Go.Abs

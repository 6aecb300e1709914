/- Contracts of functions of the program, over the abstract machine, and facts for them. No condition. -/
import Derived.Test.YtchoomlibgefbaaFacts
import Derived.ProofKit
import Derived.Test.YtchoomlibgefbaaPure23
import Derived.Test.YtchoomlibgefbaaQ3
import Derived.Test.YtchoomlibgefbaaQ30
import Derived.Test.YtchoomlibgefbaaQ8
set_option linter.unusedVariables false
set_option linter.unusedSimpArgs false
set_option linter.unnecessarySimpa false
set_option linter.constructorNameAsVariable false
set_option maxHeartbeats 4000000
set_option maxRecDepth 100000
namespace Go.Abs
open Go
attribute [local go_sem ↓] E.argsA_h E.wq_ret E.wq_req E.wq_bad E.wq_call E.wq_get E.wq_getO E.wq_getOs E.wq_getPs E.wq_fresh E.wq_anyNil E.wq_getR0 E.wq_getR E.wq_ixM E.wq_n E.wq_g E.wq_gn E.ev_skip E.ev_region E.ev_draw E.ev_seq E.ev_cond E.ev_block E.ev_exit E.ev_ret E.sq_n E.sq_e E.sq_r E.bl_n E.bl_e E.bl_r E.lp_n E.lp_e E.lp_r E.fk_n E.fk_r E.q_move E.q_assign E.q_pick E.q_bin E.q_binw E.q_un E.q_alloc E.q_box E.q_build E.q_buildS E.q_makeS E.q_load E.q_store E.q_nilCheck E.q_slice E.q_fieldAddr E.q_field E.q_indexAddr E.q_extract E.q_makeFunc E.q_call E.q_callT E.q_len E.q_append E.q_min E.q_max E.q_convert E.q_cap E.q_clear appendIM appendZM E.b_add E.b_sub E.b_mul E.b_eql E.b_neq E.b_lss E.b_leq E.b_gtr E.b_geq E.GO_tmp E.GO_int E.GO_bool E.GO_str E.GO_nil E.GO_func E.GOs_nil E.GOs_cons E.GPs_nil E.GPs_cons E.RW_nil E.RW_cons E.dstAt_0 E.dstAt_s E.keepL_nil E.keepL_s E.keepL_k E.rmN_nil E.rmN_cons E.memN_nil E.memN_cons E.memK_nil E.memK_cons E.ovl_nil E.ovl_kk E.ovl_sk E.ovl_ks E.ovl_ss ofL_s ofL_sk ofL_ks ofL_k ofL_nil E.CO_tmp E.CO_bool
attribute [local go_sem] E.RM_nil E.RM_cons E.kd_k E.sbr_eq E.s3_nil E.s3_s E.s3_k E.vr_c E.vr_a E.vr_p E.vr_q E.vr_t E.vr_f E.vr_u E.cr_r E.cr_v E.cr_b E.cr_n E.cr_u E.crs_nil E.crs_cons E.renK_nil E.renK_cons keysVs V.keys C.keys keysCs E.RG_nil E.RG_cons E.GV_v E.GB_true E.GB_false E.GX_b E.GG_t E.GG_f E.GG_u E.GU_some E.IX_0 E.IX_s E.CX_s E.FR_none E.EN_e E.GVB_b E.b_boolM E.b_nilM E.b_strM E.b_aggM
attribute [local go_sem] List.cons_append List.nil_append List.append_nil List.length_cons List.length_nil List.length_map List.length_append callM E.argsH_nil E.argsH_cons E.argH_c E.argH_a E.argH_f E.cellsH_nil E.cellsH_cons E.cellH_v E.cellH_b E.cellH_n E.cellH_nt E.cellH_u E.cellH_rt E.cellH_rf capsA capA callable backs backT resVs resV resC tupV lenV intV boolV getE getO entryL entryKs A.ts entryV entryC entryCs entryCap List.map_cons List.map_nil E.cut_n E.cut_r E.cutM plainL A.capOK szEs szE szT SZ whole toB toC List.drop_zero List.take_zero List.take_succ_cons List.drop_succ_cons resultsM resultM outM outM1 convs conv finAs finA finT finTs Int.toNat_natCast A.plain T.plain List.isEmpty_nil List.isEmpty_cons Bool.or_true Bool.true_or Bool.and_self List.getElem?_cons_zero List.getElem?_cons_succ Option.bind_some Option.bind_none Option.bind Nat.zero_add Nat.add_zero OWN BOR ONE SCAL DE ETA E.take_rest Int.toNat_zero E.take_map E.drop_map E.take_len1 List.take_length E.app_map Int.natCast_zero Int.sub_zero Int.toNat_sub partCells V.cells convsL appendM srcM E.scalEs_nil E.scalEs_cons E.oneEs_nil E.oneEs_cons List.all_cons List.all_nil T.one Bool.and_true gone ownEs ownE ownT borEs borE borT setRow splice List.set_cons_zero List.set_cons_succ optI getOpt sliceM ptrTo app_ofL T.isV Value.oneCell' fillC zeroC spliceC allV eqVs eqV minV maxV setAt setCell holed List.dropLast List.getLast?_singleton Option.getD_some Option.isSome_some Option.isSome_none Bool.and_false Bool.true_and Bool.false_and Option.map_some Option.map_none false_or true_or or_true rowAt cellAt E.constV_nil E.constV_int E.constV_bool E.constV_str E.setCell_set E.setCell_len setRow setAt List.dropLast_cons_cons List.dropLast_singleton List.getLast?_cons_cons
attribute [local go_sem_proc ↓] reduceIte
attribute [local go_sem_proc] Nat.reduceEqDiff reduceCtorEq Nat.reduceAdd Nat.reduceMul
attribute [local irreducible] E.argsH E.argH E.cellsH E.cellH E.GV E.GB E.GX E.GG E.GU E.IX E.CX E.RW E.FR E.EN E.CALL E.GO E.GOs E.GPs E.GVB E.KD E.RM E.RG E.CO E.WQ E.EV E.SQ E.BL E.LP E.FK E.S3 E.RK E.NEXT E.NQ E.INDEP
attribute [local go_sem] mdG_eq mdM toNat_pred setI List.length_set mdL_eq E.b_rem E.b_quo E.q_index E.q_convert idxS lenS convS put wrap_byte eStr_eq own_eStr bor_eStr scal_eStr one_eStr sz_eStr sub1N
theorem Fn.plainG {P : Program} {f : Nat} {x r : Value} (he : Enters P f) (h : ∀ (w : World) (X : Nat → Prop), Calls P f #[x] w fun e w' => e = .returned r ∧ Keep ⟨w, X, fun _ => none⟩ w') : Fn P f [.c (.v x)] [.c .d] [.c (.v r)] := by
  refine ⟨he, rfl, rfl, fun w X vals Hd hv hx hh => ?_⟩
  have hv1 : vals = #[x] := by
    have h0 := hx 0 (.c (.v x)) (by simp [entrySt, entryV, entryC])
    cases h0 with | c _ _ h1 =>
    generalize hy : vals.getD 0 undef = y at h1
    cases h1
    apply Array.ext
    · simpa using hv
    · intro i h1 h2
      have : i = 0 := by simp at h2; omega
      subst this
      simp only [Array.getD_eq_getD_getElem?, Array.getElem?_eq_getElem h1, Option.getD_some] at hy
      simpa using hy
  subst hv1
  refine Calls.mono (h w X) ?_
  rintro e w' ⟨rfl, hk⟩
  refine ⟨_, fun _ _ => ⟨0, 0, 0⟩, rfl, ⟨fun i r p sz es hi => ?_, fun i p sz es h i' p' sz' es' h' h1 => ?_, fun i p sz es h h1 => ?_⟩, hk, rfl, fun k hk => ?_⟩
  · cases i with
    | inl k => obtain ⟨a, b⟩ := k; rcases a with _ | a <;> rcases b with _ | b <;> simp [exitHeap, cellOf, A.ts] at hi
    | inr k => obtain ⟨a, b⟩ := k; rcases a with _ | a <;> rcases b with _ | b <;> simp [exitHeap, cellOf, A.ts] at hi
  · obtain ⟨r, hi, _⟩ := h1
    cases i with
    | inl k => obtain ⟨a, b⟩ := k; rcases a with _ | a <;> rcases b with _ | b <;> simp [exitHeap, cellOf, A.ts] at hi
    | inr k => obtain ⟨a, b⟩ := k; rcases a with _ | a <;> rcases b with _ | b <;> simp [exitHeap, cellOf, A.ts] at hi
  · obtain ⟨r, hi, _⟩ := h1
    cases i with
    | inl k => obtain ⟨a, b⟩ := k; rcases a with _ | a <;> rcases b with _ | b <;> simp [exitHeap, cellOf, A.ts] at hi
    | inr k => obtain ⟨a, b⟩ := k; rcases a with _ | a <;> rcases b with _ | b <;> simp [exitHeap, cellOf, A.ts] at hi
  · obtain ⟨a, b⟩ := k; rcases a with _ | a <;> rcases b with _ | b <;> simp [cellOf, A.ts] at hk

theorem codeN_s0 (w : World) (X : Nat → Prop) : Calls Go.Proofs.Try.prog 4 #[.int .i64 0] w fun e w' => e = .returned (.string ⟨#[111, 107]⟩) ∧ Keep ⟨w, X, fun _ => none⟩ w' := by
  go_enter Go.Proofs.Try.func4, Go.Proofs.Try.ntmps4
  go_wp2
  all_goals go_ret
  all_goals exact ⟨rfl, (by first | exact ((⟨rfl, rfl, rfl, Nat.le_refl _, fun _ _ _ => rfl⟩ : Keep _ _).alloc _) | exact (((⟨rfl, rfl, rfl, Nat.le_refl _, fun _ _ _ => rfl⟩ : Keep _ _).drew).alloc _) | exact (⟨rfl, rfl, rfl, Nat.le_refl _, fun _ _ _ => rfl⟩ : Keep _ _) | exact ((⟨rfl, rfl, rfl, Nat.le_refl _, fun _ _ _ => rfl⟩ : Keep _ _).drew))⟩

theorem codeN_s1 (w : World) (X : Nat → Prop) : Calls Go.Proofs.Try.prog 4 #[.int .i64 1] w fun e w' => e = .returned (.string ⟨#[105, 110, 118, 97, 108, 105, 100]⟩) ∧ Keep ⟨w, X, fun _ => none⟩ w' := by
  go_enter Go.Proofs.Try.func4, Go.Proofs.Try.ntmps4
  go_wp2
  all_goals go_ret
  all_goals exact ⟨rfl, (by first | exact ((⟨rfl, rfl, rfl, Nat.le_refl _, fun _ _ _ => rfl⟩ : Keep _ _).alloc _) | exact (((⟨rfl, rfl, rfl, Nat.le_refl _, fun _ _ _ => rfl⟩ : Keep _ _).drew).alloc _) | exact (⟨rfl, rfl, rfl, Nat.le_refl _, fun _ _ _ => rfl⟩ : Keep _ _) | exact ((⟨rfl, rfl, rfl, Nat.le_refl _, fun _ _ _ => rfl⟩ : Keep _ _).drew))⟩

theorem codeN_s2 (w : World) (X : Nat → Prop) : Calls Go.Proofs.Try.prog 4 #[.int .i64 2] w fun e w' => e = .returned (.string ⟨#[100, 111, 119, 110]⟩) ∧ Keep ⟨w, X, fun _ => none⟩ w' := by
  go_enter Go.Proofs.Try.func4, Go.Proofs.Try.ntmps4
  go_wp2
  all_goals go_ret
  all_goals exact ⟨rfl, (by first | exact ((⟨rfl, rfl, rfl, Nat.le_refl _, fun _ _ _ => rfl⟩ : Keep _ _).alloc _) | exact (((⟨rfl, rfl, rfl, Nat.le_refl _, fun _ _ _ => rfl⟩ : Keep _ _).drew).alloc _) | exact (⟨rfl, rfl, rfl, Nat.le_refl _, fun _ _ _ => rfl⟩ : Keep _ _) | exact ((⟨rfl, rfl, rfl, Nat.le_refl _, fun _ _ _ => rfl⟩ : Keep _ _).drew))⟩

theorem codeN_s3 (w : World) (X : Nat → Prop) : Calls Go.Proofs.Try.prog 4 #[.int .i64 3] w fun e w' => e = .returned (.string ⟨#[110, 111, 116, 112, 114, 105, 109, 97, 114, 121]⟩) ∧ Keep ⟨w, X, fun _ => none⟩ w' := by
  go_enter Go.Proofs.Try.func4, Go.Proofs.Try.ntmps4
  go_wp2
  all_goals go_ret
  all_goals exact ⟨rfl, (by first | exact ((⟨rfl, rfl, rfl, Nat.le_refl _, fun _ _ _ => rfl⟩ : Keep _ _).alloc _) | exact (((⟨rfl, rfl, rfl, Nat.le_refl _, fun _ _ _ => rfl⟩ : Keep _ _).drew).alloc _) | exact (⟨rfl, rfl, rfl, Nat.le_refl _, fun _ _ _ => rfl⟩ : Keep _ _) | exact ((⟨rfl, rfl, rfl, Nat.le_refl _, fun _ _ _ => rfl⟩ : Keep _ _).drew))⟩

theorem codeN_s4 (w : World) (X : Nat → Prop) : Calls Go.Proofs.Try.prog 4 #[.int .i64 4] w fun e w' => e = .returned (.string ⟨#[112, 101, 110, 100, 105, 110, 103]⟩) ∧ Keep ⟨w, X, fun _ => none⟩ w' := by
  go_enter Go.Proofs.Try.func4, Go.Proofs.Try.ntmps4
  go_wp2
  all_goals go_ret
  all_goals exact ⟨rfl, (by first | exact ((⟨rfl, rfl, rfl, Nat.le_refl _, fun _ _ _ => rfl⟩ : Keep _ _).alloc _) | exact (((⟨rfl, rfl, rfl, Nat.le_refl _, fun _ _ _ => rfl⟩ : Keep _ _).drew).alloc _) | exact (⟨rfl, rfl, rfl, Nat.le_refl _, fun _ _ _ => rfl⟩ : Keep _ _) | exact ((⟨rfl, rfl, rfl, Nat.le_refl _, fun _ _ _ => rfl⟩ : Keep _ _).drew))⟩

theorem codeN_s5 (w : World) (X : Nat → Prop) : Calls Go.Proofs.Try.prog 4 #[.int .i64 5] w fun e w' => e = .returned (.string ⟨#[102, 117, 108, 108]⟩) ∧ Keep ⟨w, X, fun _ => none⟩ w' := by
  go_enter Go.Proofs.Try.func4, Go.Proofs.Try.ntmps4
  go_wp2
  all_goals go_ret
  all_goals exact ⟨rfl, (by first | exact ((⟨rfl, rfl, rfl, Nat.le_refl _, fun _ _ _ => rfl⟩ : Keep _ _).alloc _) | exact (((⟨rfl, rfl, rfl, Nat.le_refl _, fun _ _ _ => rfl⟩ : Keep _ _).drew).alloc _) | exact (⟨rfl, rfl, rfl, Nat.le_refl _, fun _ _ _ => rfl⟩ : Keep _ _) | exact ((⟨rfl, rfl, rfl, Nat.le_refl _, fun _ _ _ => rfl⟩ : Keep _ _).drew))⟩

theorem codeN_s6 (w : World) (X : Nat → Prop) : Calls Go.Proofs.Try.prog 4 #[.int .i64 6] w fun e w' => e = .returned (.string ⟨#[102, 111, 114, 109, 97, 116]⟩) ∧ Keep ⟨w, X, fun _ => none⟩ w' := by
  go_enter Go.Proofs.Try.func4, Go.Proofs.Try.ntmps4
  go_wp2
  all_goals go_ret
  all_goals exact ⟨rfl, (by first | exact ((⟨rfl, rfl, rfl, Nat.le_refl _, fun _ _ _ => rfl⟩ : Keep _ _).alloc _) | exact (((⟨rfl, rfl, rfl, Nat.le_refl _, fun _ _ _ => rfl⟩ : Keep _ _).drew).alloc _) | exact (⟨rfl, rfl, rfl, Nat.le_refl _, fun _ _ _ => rfl⟩ : Keep _ _) | exact ((⟨rfl, rfl, rfl, Nat.le_refl _, fun _ _ _ => rfl⟩ : Keep _ _).drew))⟩

theorem codeN_s7 (w : World) (X : Nat → Prop) : Calls Go.Proofs.Try.prog 4 #[.int .i64 7] w fun e w' => e = .returned (.string ⟨#[108, 101, 97, 115, 101]⟩) ∧ Keep ⟨w, X, fun _ => none⟩ w' := by
  go_enter Go.Proofs.Try.func4, Go.Proofs.Try.ntmps4
  go_wp2
  all_goals go_ret
  all_goals exact ⟨rfl, (by first | exact ((⟨rfl, rfl, rfl, Nat.le_refl _, fun _ _ _ => rfl⟩ : Keep _ _).alloc _) | exact (((⟨rfl, rfl, rfl, Nat.le_refl _, fun _ _ _ => rfl⟩ : Keep _ _).drew).alloc _) | exact (⟨rfl, rfl, rfl, Nat.le_refl _, fun _ _ _ => rfl⟩ : Keep _ _) | exact ((⟨rfl, rfl, rfl, Nat.le_refl _, fun _ _ _ => rfl⟩ : Keep _ _).drew))⟩

theorem codeN_s8 (w : World) (X : Nat → Prop) : Calls Go.Proofs.Try.prog 4 #[.int .i64 8] w fun e w' => e = .returned (.string ⟨#[109, 97, 115, 116, 101, 114, 115]⟩) ∧ Keep ⟨w, X, fun _ => none⟩ w' := by
  go_enter Go.Proofs.Try.func4, Go.Proofs.Try.ntmps4
  go_wp2
  all_goals go_ret
  all_goals exact ⟨rfl, (by first | exact ((⟨rfl, rfl, rfl, Nat.le_refl _, fun _ _ _ => rfl⟩ : Keep _ _).alloc _) | exact (((⟨rfl, rfl, rfl, Nat.le_refl _, fun _ _ _ => rfl⟩ : Keep _ _).drew).alloc _) | exact (⟨rfl, rfl, rfl, Nat.le_refl _, fun _ _ _ => rfl⟩ : Keep _ _) | exact ((⟨rfl, rfl, rfl, Nat.le_refl _, fun _ _ _ => rfl⟩ : Keep _ _).drew))⟩

theorem codeN_s9 (w : World) (X : Nat → Prop) : Calls Go.Proofs.Try.prog 4 #[.int .i64 9] w fun e w' => e = .returned (.string ⟨#[110, 111, 115, 111, 117, 114, 99, 101]⟩) ∧ Keep ⟨w, X, fun _ => none⟩ w' := by
  go_enter Go.Proofs.Try.func4, Go.Proofs.Try.ntmps4
  go_wp2
  all_goals go_ret
  all_goals exact ⟨rfl, (by first | exact ((⟨rfl, rfl, rfl, Nat.le_refl _, fun _ _ _ => rfl⟩ : Keep _ _).alloc _) | exact (((⟨rfl, rfl, rfl, Nat.le_refl _, fun _ _ _ => rfl⟩ : Keep _ _).drew).alloc _) | exact (⟨rfl, rfl, rfl, Nat.le_refl _, fun _ _ _ => rfl⟩ : Keep _ _) | exact ((⟨rfl, rfl, rfl, Nat.le_refl _, fun _ _ _ => rfl⟩ : Keep _ _).drew))⟩

theorem codeN_s10 (w : World) (X : Nat → Prop) : Calls Go.Proofs.Try.prog 4 #[.int .i64 10] w fun e w' => e = .returned (.string ⟨#[117, 110, 114, 101, 97, 99, 104, 97, 98, 108, 101]⟩) ∧ Keep ⟨w, X, fun _ => none⟩ w' := by
  go_enter Go.Proofs.Try.func4, Go.Proofs.Try.ntmps4
  go_wp2
  all_goals go_ret
  all_goals exact ⟨rfl, (by first | exact ((⟨rfl, rfl, rfl, Nat.le_refl _, fun _ _ _ => rfl⟩ : Keep _ _).alloc _) | exact (((⟨rfl, rfl, rfl, Nat.le_refl _, fun _ _ _ => rfl⟩ : Keep _ _).drew).alloc _) | exact (⟨rfl, rfl, rfl, Nat.le_refl _, fun _ _ _ => rfl⟩ : Keep _ _) | exact ((⟨rfl, rfl, rfl, Nat.le_refl _, fun _ _ _ => rfl⟩ : Keep _ _).drew))⟩

theorem codeN_s11 (w : World) (X : Nat → Prop) : Calls Go.Proofs.Try.prog 4 #[.int .i64 11] w fun e w' => e = .returned (.string ⟨#[115, 116, 97, 108, 101]⟩) ∧ Keep ⟨w, X, fun _ => none⟩ w' := by
  go_enter Go.Proofs.Try.func4, Go.Proofs.Try.ntmps4
  go_wp2
  all_goals go_ret
  all_goals exact ⟨rfl, (by first | exact ((⟨rfl, rfl, rfl, Nat.le_refl _, fun _ _ _ => rfl⟩ : Keep _ _).alloc _) | exact (((⟨rfl, rfl, rfl, Nat.le_refl _, fun _ _ _ => rfl⟩ : Keep _ _).drew).alloc _) | exact (⟨rfl, rfl, rfl, Nat.le_refl _, fun _ _ _ => rfl⟩ : Keep _ _) | exact ((⟨rfl, rfl, rfl, Nat.le_refl _, fun _ _ _ => rfl⟩ : Keep _ _).drew))⟩

theorem codeN_sl (n : Int) (h : n < 0) (w : World) (X : Nat → Prop) : Calls Go.Proofs.Try.prog 4 #[.int .i64 n] w fun e w' => e = .returned (.string ⟨#[]⟩) ∧ Keep ⟨w, X, fun _ => none⟩ w' := by
  have h2 : ¬ 0 ≤ n := by omega
  go_enter Go.Proofs.Try.func4, Go.Proofs.Try.ntmps4
  go_wp2
  all_goals go_ret
  all_goals exact ⟨rfl, (by first | exact ((⟨rfl, rfl, rfl, Nat.le_refl _, fun _ _ _ => rfl⟩ : Keep _ _).alloc _) | exact (((⟨rfl, rfl, rfl, Nat.le_refl _, fun _ _ _ => rfl⟩ : Keep _ _).drew).alloc _) | exact (⟨rfl, rfl, rfl, Nat.le_refl _, fun _ _ _ => rfl⟩ : Keep _ _) | exact ((⟨rfl, rfl, rfl, Nat.le_refl _, fun _ _ _ => rfl⟩ : Keep _ _).drew))⟩

theorem codeN_sg (n : Int) (h : 11 < n) (w : World) (X : Nat → Prop) : Calls Go.Proofs.Try.prog 4 #[.int .i64 n] w fun e w' => e = .returned (.string ⟨#[]⟩) ∧ Keep ⟨w, X, fun _ => none⟩ w' := by
  have h2 : ¬ n ≤ 11 := by omega
  have h3 : 0 ≤ n := by omega
  go_enter Go.Proofs.Try.func4, Go.Proofs.Try.ntmps4
  go_wp2
  all_goals go_ret
  all_goals exact ⟨rfl, (by first | exact ((⟨rfl, rfl, rfl, Nat.le_refl _, fun _ _ _ => rfl⟩ : Keep _ _).alloc _) | exact (((⟨rfl, rfl, rfl, Nat.le_refl _, fun _ _ _ => rfl⟩ : Keep _ _).drew).alloc _) | exact (⟨rfl, rfl, rfl, Nat.le_refl _, fun _ _ _ => rfl⟩ : Keep _ _) | exact ((⟨rfl, rfl, rfl, Nat.le_refl _, fun _ _ _ => rfl⟩ : Keep _ _).drew))⟩

theorem codeN_s (n : Int) : Fn Go.Proofs.Try.prog 4 [.c (.v (vi n))] [.c .d] [.c (.v (.string (codeN n)))] := by
  refine Fn.plainG ⟨_, Go.Proofs.Try.func4, by simp [Go.Proofs.Try.f4], by simp [Go.Proofs.Try.f4]⟩ fun w X => ?_
  by_cases h0 : n < 0
  · rw [codeN_l h0]; exact codeN_sl n h0 w X
  by_cases h1 : 11 < n
  · rw [codeN_g h1]; exact codeN_sg n h1 w X
  have h : n = 0 ∨ n = 1 ∨ n = 2 ∨ n = 3 ∨ n = 4 ∨ n = 5 ∨ n = 6 ∨ n = 7 ∨ n = 8 ∨ n = 9 ∨ n = 10 ∨ n = 11 := by omega
  rcases h with rfl | rfl | rfl | rfl | rfl | rfl | rfl | rfl | rfl | rfl | rfl | rfl
  · exact codeN_s0 w X
  · exact codeN_s1 w X
  · exact codeN_s2 w X
  · exact codeN_s3 w X
  · exact codeN_s4 w X
  · exact codeN_s5 w X
  · exact codeN_s6 w X
  · exact codeN_s7 w X
  · exact codeN_s8 w X
  · exact codeN_s9 w X
  · exact codeN_s10 w X
  · exact codeN_s11 w X

theorem codeN_i0 (w : World) (X : Nat → Prop) : Calls Go.Proofs.Try.prog 5 #[.int .i64 0] w fun e w' => e = .returned (.string ⟨#[111, 107]⟩) ∧ Keep ⟨w, X, fun _ => none⟩ w' := by
  go_enter Go.Proofs.Try.func5, Go.Proofs.Try.ntmps5
  go_wp2
  all_goals go_ret
  all_goals exact ⟨rfl, (by first | exact ((⟨rfl, rfl, rfl, Nat.le_refl _, fun _ _ _ => rfl⟩ : Keep _ _).alloc _) | exact (((⟨rfl, rfl, rfl, Nat.le_refl _, fun _ _ _ => rfl⟩ : Keep _ _).drew).alloc _) | exact (⟨rfl, rfl, rfl, Nat.le_refl _, fun _ _ _ => rfl⟩ : Keep _ _) | exact ((⟨rfl, rfl, rfl, Nat.le_refl _, fun _ _ _ => rfl⟩ : Keep _ _).drew))⟩

theorem codeN_i1 (w : World) (X : Nat → Prop) : Calls Go.Proofs.Try.prog 5 #[.int .i64 1] w fun e w' => e = .returned (.string ⟨#[105, 110, 118, 97, 108, 105, 100]⟩) ∧ Keep ⟨w, X, fun _ => none⟩ w' := by
  go_enter Go.Proofs.Try.func5, Go.Proofs.Try.ntmps5
  go_wp2
  all_goals go_ret
  all_goals exact ⟨rfl, (by first | exact ((⟨rfl, rfl, rfl, Nat.le_refl _, fun _ _ _ => rfl⟩ : Keep _ _).alloc _) | exact (((⟨rfl, rfl, rfl, Nat.le_refl _, fun _ _ _ => rfl⟩ : Keep _ _).drew).alloc _) | exact (⟨rfl, rfl, rfl, Nat.le_refl _, fun _ _ _ => rfl⟩ : Keep _ _) | exact ((⟨rfl, rfl, rfl, Nat.le_refl _, fun _ _ _ => rfl⟩ : Keep _ _).drew))⟩

theorem codeN_i2 (w : World) (X : Nat → Prop) : Calls Go.Proofs.Try.prog 5 #[.int .i64 2] w fun e w' => e = .returned (.string ⟨#[100, 111, 119, 110]⟩) ∧ Keep ⟨w, X, fun _ => none⟩ w' := by
  go_enter Go.Proofs.Try.func5, Go.Proofs.Try.ntmps5
  go_wp2
  all_goals go_ret
  all_goals exact ⟨rfl, (by first | exact ((⟨rfl, rfl, rfl, Nat.le_refl _, fun _ _ _ => rfl⟩ : Keep _ _).alloc _) | exact (((⟨rfl, rfl, rfl, Nat.le_refl _, fun _ _ _ => rfl⟩ : Keep _ _).drew).alloc _) | exact (⟨rfl, rfl, rfl, Nat.le_refl _, fun _ _ _ => rfl⟩ : Keep _ _) | exact ((⟨rfl, rfl, rfl, Nat.le_refl _, fun _ _ _ => rfl⟩ : Keep _ _).drew))⟩

theorem codeN_i3 (w : World) (X : Nat → Prop) : Calls Go.Proofs.Try.prog 5 #[.int .i64 3] w fun e w' => e = .returned (.string ⟨#[110, 111, 116, 112, 114, 105, 109, 97, 114, 121]⟩) ∧ Keep ⟨w, X, fun _ => none⟩ w' := by
  go_enter Go.Proofs.Try.func5, Go.Proofs.Try.ntmps5
  go_wp2
  all_goals go_ret
  all_goals exact ⟨rfl, (by first | exact ((⟨rfl, rfl, rfl, Nat.le_refl _, fun _ _ _ => rfl⟩ : Keep _ _).alloc _) | exact (((⟨rfl, rfl, rfl, Nat.le_refl _, fun _ _ _ => rfl⟩ : Keep _ _).drew).alloc _) | exact (⟨rfl, rfl, rfl, Nat.le_refl _, fun _ _ _ => rfl⟩ : Keep _ _) | exact ((⟨rfl, rfl, rfl, Nat.le_refl _, fun _ _ _ => rfl⟩ : Keep _ _).drew))⟩

theorem codeN_i4 (w : World) (X : Nat → Prop) : Calls Go.Proofs.Try.prog 5 #[.int .i64 4] w fun e w' => e = .returned (.string ⟨#[112, 101, 110, 100, 105, 110, 103]⟩) ∧ Keep ⟨w, X, fun _ => none⟩ w' := by
  go_enter Go.Proofs.Try.func5, Go.Proofs.Try.ntmps5
  go_wp2
  all_goals go_ret
  all_goals exact ⟨rfl, (by first | exact ((⟨rfl, rfl, rfl, Nat.le_refl _, fun _ _ _ => rfl⟩ : Keep _ _).alloc _) | exact (((⟨rfl, rfl, rfl, Nat.le_refl _, fun _ _ _ => rfl⟩ : Keep _ _).drew).alloc _) | exact (⟨rfl, rfl, rfl, Nat.le_refl _, fun _ _ _ => rfl⟩ : Keep _ _) | exact ((⟨rfl, rfl, rfl, Nat.le_refl _, fun _ _ _ => rfl⟩ : Keep _ _).drew))⟩

theorem codeN_i5 (w : World) (X : Nat → Prop) : Calls Go.Proofs.Try.prog 5 #[.int .i64 5] w fun e w' => e = .returned (.string ⟨#[102, 117, 108, 108]⟩) ∧ Keep ⟨w, X, fun _ => none⟩ w' := by
  go_enter Go.Proofs.Try.func5, Go.Proofs.Try.ntmps5
  go_wp2
  all_goals go_ret
  all_goals exact ⟨rfl, (by first | exact ((⟨rfl, rfl, rfl, Nat.le_refl _, fun _ _ _ => rfl⟩ : Keep _ _).alloc _) | exact (((⟨rfl, rfl, rfl, Nat.le_refl _, fun _ _ _ => rfl⟩ : Keep _ _).drew).alloc _) | exact (⟨rfl, rfl, rfl, Nat.le_refl _, fun _ _ _ => rfl⟩ : Keep _ _) | exact ((⟨rfl, rfl, rfl, Nat.le_refl _, fun _ _ _ => rfl⟩ : Keep _ _).drew))⟩

theorem codeN_i6 (w : World) (X : Nat → Prop) : Calls Go.Proofs.Try.prog 5 #[.int .i64 6] w fun e w' => e = .returned (.string ⟨#[102, 111, 114, 109, 97, 116]⟩) ∧ Keep ⟨w, X, fun _ => none⟩ w' := by
  go_enter Go.Proofs.Try.func5, Go.Proofs.Try.ntmps5
  go_wp2
  all_goals go_ret
  all_goals exact ⟨rfl, (by first | exact ((⟨rfl, rfl, rfl, Nat.le_refl _, fun _ _ _ => rfl⟩ : Keep _ _).alloc _) | exact (((⟨rfl, rfl, rfl, Nat.le_refl _, fun _ _ _ => rfl⟩ : Keep _ _).drew).alloc _) | exact (⟨rfl, rfl, rfl, Nat.le_refl _, fun _ _ _ => rfl⟩ : Keep _ _) | exact ((⟨rfl, rfl, rfl, Nat.le_refl _, fun _ _ _ => rfl⟩ : Keep _ _).drew))⟩

theorem codeN_i7 (w : World) (X : Nat → Prop) : Calls Go.Proofs.Try.prog 5 #[.int .i64 7] w fun e w' => e = .returned (.string ⟨#[108, 101, 97, 115, 101]⟩) ∧ Keep ⟨w, X, fun _ => none⟩ w' := by
  go_enter Go.Proofs.Try.func5, Go.Proofs.Try.ntmps5
  go_wp2
  all_goals go_ret
  all_goals exact ⟨rfl, (by first | exact ((⟨rfl, rfl, rfl, Nat.le_refl _, fun _ _ _ => rfl⟩ : Keep _ _).alloc _) | exact (((⟨rfl, rfl, rfl, Nat.le_refl _, fun _ _ _ => rfl⟩ : Keep _ _).drew).alloc _) | exact (⟨rfl, rfl, rfl, Nat.le_refl _, fun _ _ _ => rfl⟩ : Keep _ _) | exact ((⟨rfl, rfl, rfl, Nat.le_refl _, fun _ _ _ => rfl⟩ : Keep _ _).drew))⟩

theorem codeN_i8 (w : World) (X : Nat → Prop) : Calls Go.Proofs.Try.prog 5 #[.int .i64 8] w fun e w' => e = .returned (.string ⟨#[109, 97, 115, 116, 101, 114, 115]⟩) ∧ Keep ⟨w, X, fun _ => none⟩ w' := by
  go_enter Go.Proofs.Try.func5, Go.Proofs.Try.ntmps5
  go_wp2
  all_goals go_ret
  all_goals exact ⟨rfl, (by first | exact ((⟨rfl, rfl, rfl, Nat.le_refl _, fun _ _ _ => rfl⟩ : Keep _ _).alloc _) | exact (((⟨rfl, rfl, rfl, Nat.le_refl _, fun _ _ _ => rfl⟩ : Keep _ _).drew).alloc _) | exact (⟨rfl, rfl, rfl, Nat.le_refl _, fun _ _ _ => rfl⟩ : Keep _ _) | exact ((⟨rfl, rfl, rfl, Nat.le_refl _, fun _ _ _ => rfl⟩ : Keep _ _).drew))⟩

theorem codeN_i9 (w : World) (X : Nat → Prop) : Calls Go.Proofs.Try.prog 5 #[.int .i64 9] w fun e w' => e = .returned (.string ⟨#[110, 111, 115, 111, 117, 114, 99, 101]⟩) ∧ Keep ⟨w, X, fun _ => none⟩ w' := by
  go_enter Go.Proofs.Try.func5, Go.Proofs.Try.ntmps5
  go_wp2
  all_goals go_ret
  all_goals exact ⟨rfl, (by first | exact ((⟨rfl, rfl, rfl, Nat.le_refl _, fun _ _ _ => rfl⟩ : Keep _ _).alloc _) | exact (((⟨rfl, rfl, rfl, Nat.le_refl _, fun _ _ _ => rfl⟩ : Keep _ _).drew).alloc _) | exact (⟨rfl, rfl, rfl, Nat.le_refl _, fun _ _ _ => rfl⟩ : Keep _ _) | exact ((⟨rfl, rfl, rfl, Nat.le_refl _, fun _ _ _ => rfl⟩ : Keep _ _).drew))⟩

theorem codeN_i10 (w : World) (X : Nat → Prop) : Calls Go.Proofs.Try.prog 5 #[.int .i64 10] w fun e w' => e = .returned (.string ⟨#[117, 110, 114, 101, 97, 99, 104, 97, 98, 108, 101]⟩) ∧ Keep ⟨w, X, fun _ => none⟩ w' := by
  go_enter Go.Proofs.Try.func5, Go.Proofs.Try.ntmps5
  go_wp2
  all_goals go_ret
  all_goals exact ⟨rfl, (by first | exact ((⟨rfl, rfl, rfl, Nat.le_refl _, fun _ _ _ => rfl⟩ : Keep _ _).alloc _) | exact (((⟨rfl, rfl, rfl, Nat.le_refl _, fun _ _ _ => rfl⟩ : Keep _ _).drew).alloc _) | exact (⟨rfl, rfl, rfl, Nat.le_refl _, fun _ _ _ => rfl⟩ : Keep _ _) | exact ((⟨rfl, rfl, rfl, Nat.le_refl _, fun _ _ _ => rfl⟩ : Keep _ _).drew))⟩

theorem codeN_i11 (w : World) (X : Nat → Prop) : Calls Go.Proofs.Try.prog 5 #[.int .i64 11] w fun e w' => e = .returned (.string ⟨#[115, 116, 97, 108, 101]⟩) ∧ Keep ⟨w, X, fun _ => none⟩ w' := by
  go_enter Go.Proofs.Try.func5, Go.Proofs.Try.ntmps5
  go_wp2
  all_goals go_ret
  all_goals exact ⟨rfl, (by first | exact ((⟨rfl, rfl, rfl, Nat.le_refl _, fun _ _ _ => rfl⟩ : Keep _ _).alloc _) | exact (((⟨rfl, rfl, rfl, Nat.le_refl _, fun _ _ _ => rfl⟩ : Keep _ _).drew).alloc _) | exact (⟨rfl, rfl, rfl, Nat.le_refl _, fun _ _ _ => rfl⟩ : Keep _ _) | exact ((⟨rfl, rfl, rfl, Nat.le_refl _, fun _ _ _ => rfl⟩ : Keep _ _).drew))⟩

theorem codeN_il (n : Int) (h : n < 0) (w : World) (X : Nat → Prop) : Calls Go.Proofs.Try.prog 5 #[.int .i64 n] w fun e w' => e = .returned (.string ⟨#[]⟩) ∧ Keep ⟨w, X, fun _ => none⟩ w' := by
  have h2 : ¬ 0 ≤ n := by omega
  go_enter Go.Proofs.Try.func5, Go.Proofs.Try.ntmps5
  go_wp2
  all_goals go_ret
  all_goals exact ⟨rfl, (by first | exact ((⟨rfl, rfl, rfl, Nat.le_refl _, fun _ _ _ => rfl⟩ : Keep _ _).alloc _) | exact (((⟨rfl, rfl, rfl, Nat.le_refl _, fun _ _ _ => rfl⟩ : Keep _ _).drew).alloc _) | exact (⟨rfl, rfl, rfl, Nat.le_refl _, fun _ _ _ => rfl⟩ : Keep _ _) | exact ((⟨rfl, rfl, rfl, Nat.le_refl _, fun _ _ _ => rfl⟩ : Keep _ _).drew))⟩

theorem codeN_ig (n : Int) (h : 11 < n) (w : World) (X : Nat → Prop) : Calls Go.Proofs.Try.prog 5 #[.int .i64 n] w fun e w' => e = .returned (.string ⟨#[]⟩) ∧ Keep ⟨w, X, fun _ => none⟩ w' := by
  have h2 : ¬ n ≤ 11 := by omega
  have h3 : 0 ≤ n := by omega
  go_enter Go.Proofs.Try.func5, Go.Proofs.Try.ntmps5
  go_wp2
  all_goals go_ret
  all_goals exact ⟨rfl, (by first | exact ((⟨rfl, rfl, rfl, Nat.le_refl _, fun _ _ _ => rfl⟩ : Keep _ _).alloc _) | exact (((⟨rfl, rfl, rfl, Nat.le_refl _, fun _ _ _ => rfl⟩ : Keep _ _).drew).alloc _) | exact (⟨rfl, rfl, rfl, Nat.le_refl _, fun _ _ _ => rfl⟩ : Keep _ _) | exact ((⟨rfl, rfl, rfl, Nat.le_refl _, fun _ _ _ => rfl⟩ : Keep _ _).drew))⟩

theorem codeN_i (n : Int) : Fn Go.Proofs.Try.prog 5 [.c (.v (vi n))] [.c .d] [.c (.v (.string (codeN n)))] := by
  refine Fn.plainG ⟨_, Go.Proofs.Try.func5, by simp [Go.Proofs.Try.f5], by simp [Go.Proofs.Try.f5]⟩ fun w X => ?_
  by_cases h0 : n < 0
  · rw [codeN_l h0]; exact codeN_il n h0 w X
  by_cases h1 : 11 < n
  · rw [codeN_g h1]; exact codeN_ig n h1 w X
  have h : n = 0 ∨ n = 1 ∨ n = 2 ∨ n = 3 ∨ n = 4 ∨ n = 5 ∨ n = 6 ∨ n = 7 ∨ n = 8 ∨ n = 9 ∨ n = 10 ∨ n = 11 := by omega
  rcases h with rfl | rfl | rfl | rfl | rfl | rfl | rfl | rfl | rfl | rfl | rfl | rfl
  · exact codeN_i0 w X
  · exact codeN_i1 w X
  · exact codeN_i2 w X
  · exact codeN_i3 w X
  · exact codeN_i4 w X
  · exact codeN_i5 w X
  · exact codeN_i6 w X
  · exact codeN_i7 w X
  · exact codeN_i8 w X
  · exact codeN_i9 w X
  · exact codeN_i10 w X
  · exact codeN_i11 w X

end Go.Abs

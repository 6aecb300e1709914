/- Contracts of functions of the program, over the abstract machine, and facts for them. No condition. -/
import Derived.Test.YtijifinpifomcaaGreatFacts
import Derived.Shelf.Small.Bits
import Derived.Test.YtijifinpifomcaaGreatPure25
import Derived.Test.YtijifinpifomcaaGreatQ3
set_option linter.unusedVariables false
set_option linter.unusedSimpArgs false
set_option linter.unnecessarySimpa false
set_option linter.constructorNameAsVariable false
set_option maxHeartbeats 4000000
set_option maxRecDepth 100000
namespace Go.Abs
open Go
def mdG (f i : Nat) : Bool := if i = 0 then (if f = 170 then true else if f = 173 then true else if f = 175 then true else if f = 171 then true else if f = 163 then true else if f = 999999 then true else if f = 999999 then true else false) else false
theorem mdG_eq (f i : Nat) : mdG f i = if i = 0 then (if f = 170 then true else if f = 173 then true else if f = 175 then true else if f = 171 then true else if f = 163 then true else if f = 999999 then true else if f = 999999 then true else false) else false := rfl
attribute [local go_sem ↓] E.argsA_h E.wq_ret E.wq_req E.wq_bad E.wq_call E.wq_get E.wq_getO E.wq_getOs E.wq_getPs E.wq_fresh E.wq_anyNil E.wq_getR0 E.wq_getR E.wq_ixM E.wq_n E.wq_g E.wq_gn E.ev_skip E.ev_region E.ev_draw E.ev_seq E.ev_cond E.ev_block E.ev_exit E.ev_ret E.sq_n E.sq_e E.sq_r E.bl_n E.bl_e E.bl_r E.lp_n E.lp_e E.lp_r E.fk_n E.fk_r E.q_move E.q_assign E.q_pick E.q_bin E.q_binw E.q_un E.q_alloc E.q_box E.q_build E.q_buildS E.q_makeS E.q_load E.q_store E.q_nilCheck E.q_slice E.q_fieldAddr E.q_field E.q_indexAddr E.q_extract E.q_makeFunc E.q_call E.q_callT E.q_len E.q_append E.q_min E.q_max E.q_convert E.q_cap E.q_clear appendIM appendZM E.b_add E.b_sub E.b_mul E.b_eql E.b_neq E.b_lss E.b_leq E.b_gtr E.b_geq E.GO_tmp E.GO_int E.GO_bool E.GO_str E.GO_nil E.GO_func E.GOs_nil E.GOs_cons E.GPs_nil E.GPs_cons E.RW_nil E.RW_cons E.dstAt_0 E.dstAt_s E.keepL_nil E.keepL_s E.keepL_k E.rmN_nil E.rmN_cons E.memN_nil E.memN_cons E.memK_nil E.memK_cons E.ovl_nil E.ovl_kk E.ovl_sk E.ovl_ks E.ovl_ss ofL_s ofL_sk ofL_ks ofL_k ofL_nil E.CO_tmp E.CO_bool
attribute [local go_sem] E.RM_nil E.RM_cons E.kd_k E.sbr_eq E.s3_nil E.s3_s E.s3_k E.vr_c E.vr_a E.vr_p E.vr_q E.vr_t E.vr_f E.vr_u E.cr_r E.cr_v E.cr_b E.cr_n E.cr_u E.crs_nil E.crs_cons E.renK_nil E.renK_cons keysVs V.keys C.keys keysCs E.RG_nil E.RG_cons E.GV_v E.GB_true E.GB_false E.GX_b E.GG_t E.GG_f E.GG_u E.GU_some E.IX_0 E.IX_s E.CX_s E.FR_none E.EN_e E.GVB_b E.b_boolM E.b_nilM E.b_strM E.b_aggM
attribute [local go_sem] List.cons_append List.nil_append List.append_nil List.length_cons List.length_nil List.length_map List.length_append callM E.argsH_nil E.argsH_cons E.argH_c E.argH_a E.argH_f E.argH_p ptrH_s E.cellsH_nil E.cellsH_cons E.cellH_v E.cellH_b E.cellH_n E.cellH_nt E.cellH_u E.cellH_rt E.cellH_rf capsA capA callable backs backT resVs resV resC tupV lenV intV boolV getE getO entryL entryKs A.ts entryV entryC entryCs entryCap List.map_cons List.map_nil E.cut_n E.cut_r E.cutM plainL A.lastOK T.lastOK Bool.false_or A.capOK szEs szE szT SZ whole toB toC List.drop_zero List.take_zero List.take_succ_cons List.drop_succ_cons resultsM resultM outM outM1 convs conv finAs finA finT finTs Int.toNat_natCast A.plain T.plain List.isEmpty_nil List.isEmpty_cons Bool.or_true Bool.true_or Bool.and_self List.getElem?_cons_zero List.getElem?_cons_succ Option.bind_some Option.bind_none Option.bind Nat.zero_add Nat.add_zero OWN BOR ONE SCAL DE ETA E.take_rest Int.toNat_zero E.take_map E.drop_map E.take_len1 List.take_length E.app_map Int.natCast_zero Int.sub_zero Int.toNat_sub partCells V.cells convsL appendM srcM E.scalEs_nil E.scalEs_cons E.oneEs_nil E.oneEs_cons List.all_cons List.all_nil T.one Bool.and_true gone ownEs ownE ownT borEs borE borT setRow splice List.set_cons_zero List.set_cons_succ optI getOpt sliceM ptrTo app_ofL T.isV Value.oneCell' fillC zeroC spliceC allV eqVs eqV minV maxV setAt setCell holed List.dropLast List.getLast?_singleton Option.getD_some Option.isSome_some Option.isSome_none Bool.and_false Bool.true_and Bool.false_and Option.map_some Option.map_none false_or true_or or_true rowAt cellAt E.constV_nil E.constV_int E.constV_bool E.constV_str E.setCell_set E.setCell_len setRow setAt List.dropLast_cons_cons List.dropLast_singleton List.getLast?_cons_cons
attribute [local go_sem_proc ↓] reduceIte
attribute [local go_sem_proc] Nat.reduceEqDiff reduceCtorEq Nat.reduceAdd Nat.reduceMul
attribute [local irreducible] E.argsH E.argH E.cellsH E.cellH E.GV E.GB E.GX E.GG E.GU E.IX E.CX E.RW E.FR E.EN E.CALL E.GO E.GOs E.GPs E.GVB E.KD E.RM E.RG E.CO E.WQ E.EV E.SQ E.BL E.LP E.FK E.S3 E.RK E.NEXT E.NQ E.INDEP
attribute [local go_sem] mdG_eq mdM toNat_pred 
theorem Fn.plain1 {P : Program} {f : Nat} {x r : Value} (he : Enters P f) (h : ∀ w, Calls P f #[x] w fun e w' => e = .returned r ∧ w' = w) : Fn P f [.c (.v x)] [.c .d] [.c (.v r)] := by
  refine ⟨he, rfl, rfl, fun w X vals Hd hv hx hh _ => ?_⟩
  have hv1 : vals = #[x] := by
    have h0 := hx 0 (.c (.v x)) (by simp [entrySt, entryV, entryC])
    cases h0 with | c _ _ h1 =>
    generalize hy : vals.getD 0 undef = y at h1
    cases h1
    apply Array.ext
    · simpa using hv
    · intro i h1 h2
      have : i = 0 := by simp at h2; omega
      subst this
      simp only [Array.getD_eq_getD_getElem?, Array.getElem?_eq_getElem h1, Option.getD_some] at hy
      simpa using hy
  subst hv1
  refine Calls.mono (h w) ?_
  rintro e w' ⟨rfl, rfl⟩
  refine ⟨_, fun _ _ => ⟨0, 0, 0⟩, rfl, ⟨fun i r p sz es hi => ?_, fun i p sz es h i' p' sz' es' h' h1 => ?_, fun i p sz es h h1 => ?_⟩, ⟨rfl, rfl, rfl, Nat.le_refl _, fun _ _ _ => rfl⟩, rfl, fun k hk => ?_⟩
  · cases i with
    | inl k => obtain ⟨a, b⟩ := k; rcases a with _ | a <;> rcases b with _ | b <;> simp [exitHeap, cellOf, A.ts] at hi
    | inr k => obtain ⟨a, b⟩ := k; rcases a with _ | a <;> rcases b with _ | b <;> simp [exitHeap, cellOf, A.ts] at hi
  · obtain ⟨r, hi, _⟩ := h1
    cases i with
    | inl k => obtain ⟨a, b⟩ := k; rcases a with _ | a <;> rcases b with _ | b <;> simp [exitHeap, cellOf, A.ts] at hi
    | inr k => obtain ⟨a, b⟩ := k; rcases a with _ | a <;> rcases b with _ | b <;> simp [exitHeap, cellOf, A.ts] at hi
  · obtain ⟨r, hi, _⟩ := h1
    cases i with
    | inl k => obtain ⟨a, b⟩ := k; rcases a with _ | a <;> rcases b with _ | b <;> simp [exitHeap, cellOf, A.ts] at hi
    | inr k => obtain ⟨a, b⟩ := k; rcases a with _ | a <;> rcases b with _ | b <;> simp [exitHeap, cellOf, A.ts] at hi
  · obtain ⟨a, b⟩ := k; rcases a with _ | a <;> rcases b with _ | b <;> simp [cellOf, A.ts] at hk
def bitsR : Go.Shelf.Ren := ⟨fun n => if n = 129 then 185 else if n = 128 then 184 else if n = 125 then 174 else n, fun n => if n = 53 then 184 else if n = 51 then 182 else if n = 46 then 151 else if n = 9 then 9 else if n = 5 then 5 else if n = 4 then 4 else if n = 3 then 3 else n, fun n => n⟩
theorem bitsL : Go.Proofs.Lays.n125 Go.Proofs.Tryz.prog bitsR where
  mixed := mix
  f125 := Go.Proofs.Tryz.func174.trans (congrArg some (by kernel_rfl))
  f128 := Go.Proofs.Tryz.func184.trans (congrArg some (by kernel_rfl))
  f129 := Go.Proofs.Tryz.func185.trans (congrArg some (by kernel_rfl))
  t3 := Go.Proofs.Tryz.underlying3
  a3 := Go.Proofs.Tryz.isAgg3
  z3 := Go.Proofs.Tryz.sizeOf3
  v3 := Go.Proofs.Tryz.zeroValue3
  t4 := Go.Proofs.Tryz.underlying4
  a4 := Go.Proofs.Tryz.isAgg4
  z4 := Go.Proofs.Tryz.sizeOf4
  v4 := Go.Proofs.Tryz.zeroValue4
  t5 := Go.Proofs.Tryz.underlying5
  a5 := Go.Proofs.Tryz.isAgg5
  z5 := Go.Proofs.Tryz.sizeOf5
  v5 := Go.Proofs.Tryz.zeroValue5
  t9 := Go.Proofs.Tryz.underlying9
  a9 := Go.Proofs.Tryz.isAgg9
  z9 := Go.Proofs.Tryz.sizeOf9
  v9 := Go.Proofs.Tryz.zeroValue9
  t46 := Go.Proofs.Tryz.underlying151
  a46 := Go.Proofs.Tryz.isAgg151
  z46 := Go.Proofs.Tryz.sizeOf151
  v46 := Go.Proofs.Tryz.zeroValue151
  t51 := Go.Proofs.Tryz.underlying182
  a51 := Go.Proofs.Tryz.isAgg182
  z51 := Go.Proofs.Tryz.sizeOf182
  v51 := Go.Proofs.Tryz.zeroValue182
  t53 := Go.Proofs.Tryz.underlying184
  a53 := Go.Proofs.Tryz.isAgg184
  z53 := Go.Proofs.Tryz.sizeOf184
  v53 := Go.Proofs.Tryz.zeroValue184
def bitLen (n : Nat) : Int := (Go.Lib.bitLen n : Int)
theorem bitsLen_c (x : Int) (h0 : 0 ≤ x) (h1 : x ≤ 1048576) : Fn Go.Proofs.Tryz.prog 174 [.c (.v (.int .u64 x))] [.c .d] [.c (.v (vi (bitLen x.toNat)))] := by
  refine Fn.plain1 ⟨_, Go.Proofs.Tryz.func174, by simp [Go.Proofs.Tryz.f174], by simp [Go.Proofs.Tryz.f174]⟩ fun w => ?_
  have := Go.Proofs.Any.bits_Len bitsL x w h0 (by omega)
  exact this
theorem wrap_u (n : Nat) (h : n ≤ 1048576) : IntKind.u64.wrap (n : Int) = n := by
  simp [IntKind.wrap, IntKind.bits]; omega
theorem isNaN_c (x : Int) : Fn Go.Proofs.Tryz.prog 191 [.c (.v (vi x))] [.c .d] [.c (.v (.bool (false)))] := by
  refine E.Fn.ev (n := 6) mdG false mix Go.Proofs.Tryz.func191 rfl (by simp [Go.Proofs.Tryz.f191]) Go.Proofs.Tryz.ntmps191 (by simp) (by kernel_rfl) (rs := [.tmp 2]) (tys := [4]) rfl rfl (by simp [finOK, A.ts, OWN, ownE, ownT]) (by simp [resOK, A.ts, OWN, ownE, ownT, DE]) ?_
  simp only [go_sem]
  repeat' (first
    | simp only [IJS]
    | (simp; done)
    | fail)
theorem less_c (x : Int) (y : Int) : Fn Go.Proofs.Tryz.prog 181 [.c (.v (vi x)), .c (.v (vi y))] [.c .d, .c .d] [.c (.v (.bool (decide (x < y))))] := by
  refine E.Fn.ev (n := 17) mdG false mix Go.Proofs.Tryz.func181 rfl (by simp [Go.Proofs.Tryz.f181]) Go.Proofs.Tryz.ntmps181 (by simp) (by kernel_rfl) (rs := [.tmp 4]) (tys := [4]) rfl rfl (by simp [finOK, A.ts, OWN, ownE, ownT]) (by simp [resOK, A.ts, OWN, ownE, ownT, DE]) ?_
  simp only [go_sem]
  repeat' (first
    | simp only [IJS]
    | (refine E.CALL.use (isNaN_c _) ?_ <;> (try simp only [go_sem]))
    | fail)
theorem setI (l : List Int) (j : Nat) (x : Int) : (l.map eInt).set j [T.v (vi x)] = (l.set j x).map eInt := by rw [List.map_set]; rfl
end Go.Abs

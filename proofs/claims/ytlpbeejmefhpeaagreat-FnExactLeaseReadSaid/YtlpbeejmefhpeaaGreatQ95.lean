/- Contracts of functions of the program, over the abstract machine, and facts for them. No condition. -/
import Derived.Test.YtlpbeejmefhpeaaGreatFacts
import Derived.ProofKit
import Derived.Test.YtlpbeejmefhpeaaGreatMachU
import Derived.Test.YtlpbeejmefhpeaaGreatPure25
import Derived.Test.YtlpbeejmefhpeaaGreatQ3
import Derived.Test.YtlpbeejmefhpeaaGreatQ4
import Derived.Test.YtlpbeejmefhpeaaGreatQ8
set_option linter.unusedVariables false
set_option linter.unusedSimpArgs false
set_option linter.unnecessarySimpa false
set_option linter.constructorNameAsVariable false
set_option maxHeartbeats 4000000
set_option maxRecDepth 100000
namespace Go.Abs
open Go
attribute [local go_sem ↓] E.argsA_h E.wq_ret E.wq_req E.wq_bad E.wq_call E.wq_get E.wq_getO E.wq_getOs E.wq_getPs E.wq_fresh E.wq_anyNil E.wq_getR0 E.wq_getR E.wq_ixM E.wq_n E.wq_g E.wq_gn E.ev_skip E.ev_region E.ev_draw E.ev_seq E.ev_cond E.ev_block E.ev_exit E.ev_ret E.sq_n E.sq_e E.sq_r E.bl_n E.bl_e E.bl_r E.lp_n E.lp_e E.lp_r E.fk_n E.fk_r E.q_move E.q_assign E.q_pick E.q_bin E.q_binw E.q_un E.q_alloc E.q_box E.q_build E.q_buildS E.q_makeS E.q_load E.q_store E.q_nilCheck E.q_slice E.q_fieldAddr E.q_field E.q_indexAddr E.q_extract E.q_makeFunc E.q_call E.q_callT E.q_len E.q_append E.q_min E.q_max E.q_convert E.q_cap E.q_clear appendIM appendZM E.b_add E.b_sub E.b_mul E.b_eql E.b_neq E.b_lss E.b_leq E.b_gtr E.b_geq E.GO_tmp E.GO_int E.GO_bool E.GO_str E.GO_nil E.GO_func E.GOs_nil E.GOs_cons E.GPs_nil E.GPs_cons E.RW_nil E.RW_cons E.dstAt_0 E.dstAt_s E.keepL_nil E.keepL_s E.keepL_k E.rmN_nil E.rmN_cons E.memN_nil E.memN_cons E.memK_nil E.memK_cons E.ovl_nil E.ovl_kk E.ovl_sk E.ovl_ks E.ovl_ss ofL_s ofL_sk ofL_ks ofL_k ofL_nil E.CO_tmp E.CO_bool
attribute [local go_sem] E.RM_nil E.RM_cons E.kd_k E.sbr_eq E.s3_nil E.s3_s E.s3_k E.vr_c E.vr_a E.vr_p E.vr_q E.vr_t E.vr_f E.vr_u E.cr_r E.cr_v E.cr_b E.cr_n E.cr_u E.crs_nil E.crs_cons E.renK_nil E.renK_cons keysVs V.keys C.keys keysCs E.RG_nil E.RG_cons E.GV_v E.GB_true E.GB_false E.GX_b E.GG_t E.GG_f E.GG_u E.GU_some E.IX_0 E.IX_s E.CX_s E.FR_none E.EN_e E.GVB_b E.b_boolM E.b_nilM E.b_strM E.b_aggM
attribute [local go_sem] List.cons_append List.nil_append List.append_nil List.length_cons List.length_nil List.length_map List.length_append callM E.argsH_nil E.argsH_cons E.argH_c E.argH_a E.argH_f E.cellsH_nil E.cellsH_cons E.cellH_v E.cellH_b E.cellH_n E.cellH_nt E.cellH_u E.cellH_rt E.cellH_rf capsA capA callable backs backT resVs resV resC tupV lenV intV boolV getE getO entryL entryKs A.ts entryV entryC entryCs entryCap List.map_cons List.map_nil E.cut_n E.cut_r E.cutM plainL A.lastOK T.lastOK Bool.false_or A.capOK szEs szE szT SZ whole toB toC List.drop_zero List.take_zero List.take_succ_cons List.drop_succ_cons resultsM resultM outM outM1 convs conv finAs finA finT finTs Int.toNat_natCast A.plain T.plain List.isEmpty_nil List.isEmpty_cons Bool.or_true Bool.true_or Bool.and_self List.getElem?_cons_zero List.getElem?_cons_succ Option.bind_some Option.bind_none Option.bind Nat.zero_add Nat.add_zero OWN BOR ONE SCAL DE ETA E.take_rest Int.toNat_zero E.take_map E.drop_map E.take_len1 List.take_length E.app_map Int.natCast_zero Int.sub_zero Int.toNat_sub partCells V.cells convsL appendM srcM E.scalEs_nil E.scalEs_cons E.oneEs_nil E.oneEs_cons List.all_cons List.all_nil T.one Bool.and_true gone ownEs ownE ownT borEs borE borT setRow splice List.set_cons_zero List.set_cons_succ optI getOpt sliceM ptrTo app_ofL T.isV Value.oneCell' fillC zeroC spliceC allV eqVs eqV minV maxV setAt setCell holed List.dropLast List.getLast?_singleton Option.getD_some Option.isSome_some Option.isSome_none Bool.and_false Bool.true_and Bool.false_and Option.map_some Option.map_none false_or true_or or_true rowAt cellAt E.constV_nil E.constV_int E.constV_bool E.constV_str E.setCell_set E.setCell_len setRow setAt List.dropLast_cons_cons List.dropLast_singleton List.getLast?_cons_cons
attribute [local go_sem_proc ↓] reduceIte
attribute [local go_sem_proc] Nat.reduceEqDiff reduceCtorEq Nat.reduceAdd Nat.reduceMul
attribute [local irreducible] E.argsH E.argH E.cellsH E.cellH E.GV E.GB E.GX E.GG E.GU E.IX E.CX E.RW E.FR E.EN E.CALL E.GO E.GOs E.GPs E.GVB E.KD E.RM E.RG E.CO E.WQ E.EV E.SQ E.BL E.LP E.FK E.S3 E.RK E.NEXT E.NQ E.INDEP
attribute [local go_sem] mdG_eq mdM toNat_pred setI List.length_set mdL_eq
section
open Go.Proofs Go.Lib
theorem insU : Go.Proofs.Tryz.prog.underlying 95 = some (.slice 145) := by kernel_rfl
theorem insZ : (Go.Proofs.Tryz.prog.info? 145).map (·.size) = some 4 := by kernel_rfl
theorem insS : ∀ w, (Go.sizeOf 145).run Go.Proofs.Tryz.prog w = .ok 4 w := fun w => by kernel_rfl
theorem ins_shift (b off n c i vb voff vc : Nat) (cs vs : List Value) (w : World) (hi : i < n) (hn : n ≤ 1048576) (hroom : n + 1 ≤ c) (hvb : vb ≠ b)
    (hcl : cs.length = n * 4) (hvl : vs.length = 4)
    (hcs : ∀ j v, cs[j]? = some v → w.cell? ⟨b, off + j, none⟩ = some v) (hsp : ∀ j, j < (n + 1) * 4 → (w.cell? ⟨b, off + j, none⟩).isSome = true) (hfz : ∀ j, w.frozen? ⟨b, j, none⟩ = false)
    (hvs : ∀ j v, vs[j]? = some v → w.cell? ⟨vb, voff + j, none⟩ = some v) (h1c : ∀ v ∈ cs, v.oneCell' = true) (h1v : ∀ v ∈ vs, v.oneCell' = true)
    (tA tB : TypeId) (kA kB : Nat) (hsa : w.shape? vb = some (tA, kA)) (hkA : kA ≠ 0) (hsb : w.shape? b = some (tB, kB)) (hkB : kB ≠ 0) :
    Calls Go.Proofs.Tryz.prog 128 #[.slice (some ⟨b, off, none⟩) n c, .int .i64 i, .slice (some ⟨vb, voff, none⟩) 1 vc] w fun e w' =>
      e = .returned (.slice (some ⟨b, off, none⟩) (n + 1) c) ∧ w' = (w.drew.setCells b (off + i * 4 + 4) (cs.drop (i * 4))).setCells b (off + i * 4) vs := by
  have hz2 : ¬ ((i : Int) = (n : Int)) := by omega
  have hov : ∀ lb cb o, (callFunc 163 #[.slice (some ⟨vb, voff, none⟩) 1 vc, .slice (some ⟨b, o, none⟩) lb cb]).run Go.Proofs.Tryz.prog w = .ok (.value (.bool false)) w := fun lb cb o => by
    rw [run_callFunc_extern Go.Proofs.Tryz.func163 (by kernel_rfl) (by kernel_rfl) (by kernel_rfl) (e := Extern.SlicesOverlaps.overlaps #[95, 95] #[4]) (by kernel_rfl),
      run_overlaps_row w 95 4 145 insU 4 insS ⟨vb, voff, none⟩ ⟨b, o, none⟩ 1 vc lb cb hvb tA tB kA kB hsa hsb hkA hkB (hfz _) (hfz _)]
    rfl
  have hdl : (cs.drop (i * 4)).length = (n - i) * 4 := by rw [List.length_drop, hcl, Nat.sub_mul]
  have hw1 : IntKind.i64.wrap ((i : Int) + 1) = (i : Int) + 1 := by rw [IntKind.wrap_i64]; omega
  have hb1 : (0 : Int) ≤ (i : Int) + 1 := by omega
  have hin : i ≤ n := by omega
  have htn : ((i : Int) + 1).toNat = i + 1 := by omega
  have hb3 : (i : Int) ≤ (n : Int) + 1 := by omega
  have hb2 : ¬ (c = i + 1) := by omega
  have hb4 : ¬ (c = i) := by omega
  have hcp1 : ∀ ty dc sc, (Builtin.copy_ #[95, 95] ty #[.slice (some ⟨b, off + i * 4 + 4, none⟩) (n - i) dc, .slice (some ⟨b, off + i * 4, none⟩) (n + 1 - i) sc]).run Go.Proofs.Tryz.prog w.drew = .ok (goInt (Nat.min (n + 1 - i) (n - i))) (w.drew.setCells b (off + i * 4 + 4) (cs.drop (i * 4))) := fun ty dc sc =>
    run_copy_sz w.drew _ _ ty 145 4 b (off + i * 4 + 4) (n - i) dc ⟨b, off + i * 4, none⟩ (n + 1 - i) sc (cs.drop (i * 4)) insU insZ (by rw [hdl]; congr 1; simp only [Nat.min_def]; split <;> omega)
      (fun j v hj => by rw [Addr.add_lit, Nat.add_assoc]; exact hcs (i * 4 + j) v (by rwa [List.getElem?_drop] at hj))
      (fun j hj => by rw [show off + i * 4 + 4 + j = off + (i * 4 + 4 + j) by omega]; exact hsp _ (by omega)) (fun j hj => hfz _) (fun v hv => h1c v (List.mem_of_mem_drop hv))
  obtain ⟨W1, hW1⟩ : ∃ W1, W1 = w.drew.setCells b (off + i * 4 + 4) (cs.drop (i * 4)) := ⟨_, rfl⟩
  have hsp1 : ∀ k, k < (n + 1) * 4 → (W1.cell? ⟨b, off + k, none⟩).isSome = true := fun k hk => by
    rw [hW1]
    exact isSome_setCells b _ _ _ (fun j hj => by rw [show off + i * 4 + 4 + j = off + (i * 4 + 4 + j) by omega]; exact hsp _ (by omega)) _ (hsp k hk)
  have hcp2 : ∀ (W : World), (∀ x, W.cell? x = W1.cell? x) → (∀ x, W.frozen? x = W1.frozen? x) → ∀ ty dc, (Builtin.copy_ #[95, 95] ty #[.slice (some ⟨b, off + i * 4, none⟩) (n + 1 - i) dc, .slice (some ⟨vb, voff, none⟩) 1 vc]).run Go.Proofs.Tryz.prog W = .ok (goInt (Nat.min 1 (n + 1 - i))) (W.setCells b (off + i * 4) vs) := fun W hWc hWf ty dc =>
    run_copy_sz W _ _ ty 145 4 b (off + i * 4) (n + 1 - i) dc ⟨vb, voff, none⟩ 1 vc vs insU insZ (by rw [hvl]; simp only [Nat.min_def]; split <;> omega)
      (fun j v hj => by
        rw [Addr.add_lit, hWc, hW1, World.cell?_setCells_out b _ _ _ _ (fun h _ => absurd h hvb)]
        exact hvs j v hj)
      (fun j hj => by rw [hWc, Nat.add_assoc]; exact hsp1 _ (by omega)) (fun j hj => by rw [hWf, hW1, World.frozen?_setCells]; exact hfz _) h1v
  rw [← hW1] at hcp1
  have mixed : Go.Proofs.Tryz.prog.follows .mixedOrders = true := by kernel_rfl
  go_enter Go.Proofs.Tryz.func128, Go.Proofs.Tryz.ntmps128
  go_wp2_with (simp only [hov])
  go_region_law_o (refine step_copy_runI rfl _ _ 95 95 rfl (.slice (some ⟨b, off + i * 4 + 4, none⟩) (n - i) (c - (i + 1))) (.slice (some ⟨b, off + i * 4, none⟩) (n + 1 - i) (c - i)) (by simp [Act.eval, Act.put]) (by simp [Act.eval, Act.put]) (hcp1 _ _ _) ?_)
  go_wp2_with (at_builtin; refine wpList_copy_runI _ rfl _ _ 95 95 rfl _ _ rfl rfl (hcp2 _ (fun _ => rfl) (fun _ => rfl) _ _) ?_)
  go_ret
  first | exact ⟨rfl, rfl⟩ | exact ⟨rfl, by rw [hW1]⟩
theorem insI : ∃ (i0 : TypeInfo) (zv : Value), Go.Proofs.Tryz.prog.info? 145 = some i0 ∧ i0.zero = some zv ∧ i0.size = 4 ∧ i0.bytes = 32 ∧ zv.cells.size = 4 := by
  obtain ⟨i0, zv, h1, h2, h3, h4, _⟩ := zeroOf_ok (cx := ⟨(default : World), fun _ => True, fun _ => none⟩) ze145
  have h5 := sz145
  have h6 := by145
  simp only [szOf, h1, Option.map_some, Option.some.injEq] at h5
  simp only [bytesOf, h1, Option.map_some, Option.some.injEq] at h6
  exact ⟨i0, zv, h1, h2, h5, h6, by omega⟩
theorem ins_grow (b off n c i vb voff vc : Nat) (cs vs : List Value) (w : World) (hi : i < n) (hn : n ≤ 1048576) (hnc : n ≤ c) (hroom : c < n + 1) (hvb : vb < w.heap.size)
    (hcl : cs.length = n * 4) (hvl : vs.length = 4)
    (hcs : ∀ j v, cs[j]? = some v → w.cell? ⟨b, off + j, none⟩ = some v)
    (hvs : ∀ j v, vs[j]? = some v → w.cell? ⟨vb, voff + j, none⟩ = some v) (h1c : ∀ v ∈ cs, v.oneCell' = true) (h1v : ∀ v ∈ vs, v.oneCell' = true) :
    Calls Go.Proofs.Tryz.prog 128 #[.slice (some ⟨b, off, none⟩) n c, .int .i64 i, .slice (some ⟨vb, voff, none⟩) 1 vc] w fun e w' =>
      ∃ (G : Nat) (ROW : Array Value), n + 1 ≤ G ∧ G * 4 ≤ ROW.size ∧ (∀ (j : Nat) (v : Value), (cs.take (i * 4))[j]? = some v → ROW[j]? = some v) ∧ e = .returned (.slice (some ⟨w.heap.size, 0, none⟩) (n + 1) G) ∧
        w' = (((w.alloc (.cells ROW 145)).drew.setCells w.heap.size (i * 4) vs).drew).setCells w.heap.size (i * 4 + 4) (cs.drop (i * 4)) := by
  obtain ⟨i0, zv, hi0, hz0, hzs, hzb, hzc⟩ := insI
  have hz2 : ¬ ((i : Int) = (n : Int)) := by omega
  have hz3 : (c : Int) < (n : Int) + 1 := by omega
  have hbw : b < w.heap.size := block_lt_of_cell (hcs 0 _ (List.getElem?_eq_getElem (by omega)))
  have hkk : (n : Int) + 1 - (i : Int) = ((n + 1 - i : Nat) : Int) := by omega
  have hik : i + (n + 1 - i) = n + 1 := by omega
  have hold : (Builtin.firstCells i0.size i (.slice (some ⟨b, off, none⟩) i c)).run Go.Proofs.Tryz.prog w.drew = .ok (cs.take (i * 4)).toArray w.drew := by
    rw [hzs]
    exact run_firstCells_some w.drew 4 i ⟨b, off, none⟩ i c (cs.take (i * 4)) (by rw [List.length_take]; omega) (fun j v hj => by
      rw [Addr.add_lit]
      rw [List.getElem?_take] at hj
      split at hj
      · exact hcs j v hj
      · cases hj)
  have hrz : ∀ ty, (Builtin.append_ #[95, 3] ty #[.slice (some ⟨b, off, none⟩) i c, .int .i64 ((n : Int) + 1 - (i : Int))]).run Go.Proofs.Tryz.prog w =
      .ok (.slice (some ⟨w.heap.size, 0, none⟩) (n + 1) (grownCap w (n + 1) c 145)) (w.drew.alloc (.cells ((cs.take (i * 4)).toArray ++ Builtin.zeroCells zv.cells (n + 1 - i) ++ Builtin.zeroCells zv.cells (grownCap w (n + 1) c 145 - (n + 1))) 145)) := fun ty => by
    have h := Lib.run_append_grow_zeros w 95 3 ty 145 i0 _ .i64 .i64 insU (by kernel_rfl) hi0 hz0 (some ⟨b, off, none⟩) i c (cs.take (i * 4)) hold (n + 1 - i) (by omega) (by omega) (by omega) (by omega) (by rw [hzb]; omega) (by rw [hzb, hik]; exact growslice_fits hroom (by omega))
    rw [hik] at h
    rw [hkk]
    exact h
  obtain ⟨G, hG⟩ : ∃ G, G = grownCap w (n + 1) c 145 := ⟨_, rfl⟩
  obtain ⟨ROW, hROW⟩ : ∃ ROW : Array Value, ROW = (cs.take (i * 4)).toArray ++ Builtin.zeroCells zv.cells (n + 1 - i) ++ Builtin.zeroCells zv.cells (G - (n + 1)) := ⟨_, rfl⟩
  rw [← hG] at hrz
  rw [← hROW] at hrz
  have hGn : n + 1 ≤ G := by rw [hG]; exact grownCap_ge w _ _ _
  have hRl : G * 4 ≤ ROW.size := by
    rw [hROW]
    simp [Builtin.zeroCells, hzc, hcl]
    omega
  have hRt : ∀ (j : Nat) (v : Value), (cs.take (i * 4))[j]? = some v → ROW[j]? = some v := fun j v hj => by
    rw [hROW, Array.getElem?_append_left, Array.getElem?_append_left, List.getElem?_toArray]
    · exact hj
    all_goals (have := (List.getElem?_eq_some_iff.1 hj).1; simp at this ⊢; omega)
  obtain ⟨W1, hW1⟩ : ∃ W1, W1 = w.drew.alloc (.cells ROW 145) := ⟨_, rfl⟩
  rw [← hW1] at hrz
  have hN : ∀ j, j < (n + 1) * 4 → (W1.cell? ⟨w.heap.size, j, none⟩).isSome = true := fun j hj => by
    rw [hW1, World.cell?_alloc_at (w := w.drew) ROW _ w.heap.size j rfl, Array.getElem?_eq_getElem (by omega)]; rfl
  have hNf : ∀ j, W1.frozen? ⟨w.heap.size, j, none⟩ = false := fun j => by rw [hW1]; exact World.frozen?_alloc_at (w := w.drew) ROW _ w.heap.size j rfl
  have hOb : ∀ j v, w.cell? ⟨b, j, none⟩ = some v → W1.cell? ⟨b, j, none⟩ = some v := fun j v h => by rw [hW1, World.cell?_alloc_past (w := w.drew) _ b j hbw]; exact h
  have hOv : ∀ j v, w.cell? ⟨vb, j, none⟩ = some v → W1.cell? ⟨vb, j, none⟩ = some v := fun j v h => by rw [hW1, World.cell?_alloc_past (w := w.drew) _ vb j hvb]; exact h
  have hcpA : ∀ (W : World), (∀ x, W.cell? x = W1.cell? x) → (∀ x, W.frozen? x = W1.frozen? x) → ∀ ty dc, (Builtin.copy_ #[95, 95] ty #[.slice (some ⟨w.heap.size, i * 4, none⟩) (n + 1 - i) dc, .slice (some ⟨vb, voff, none⟩) 1 vc]).run Go.Proofs.Tryz.prog W = .ok (goInt (Nat.min 1 (n + 1 - i))) (W.setCells w.heap.size (i * 4) vs) := fun W hWc hWf ty dc =>
    run_copy_sz W _ _ ty 145 4 w.heap.size (i * 4) (n + 1 - i) dc ⟨vb, voff, none⟩ 1 vc vs insU insZ (by rw [hvl]; simp only [Nat.min_def]; split <;> omega)
      (fun j v hj => by rw [Addr.add_lit, hWc]; exact hOv _ v (hvs j v hj))
      (fun j hj => by rw [hWc]; exact hN _ (by omega)) (fun j hj => by rw [hWf]; exact hNf _) h1v
  have hGi : ¬ (G = i) := by omega
  have hGim : ¬ (G = i + 1) := by omega
  have hci : ¬ (c = i) := by omega
  have hbN : b ≠ w.heap.size := by omega
  have hdl : (cs.drop (i * 4)).length = (n - i) * 4 := by rw [List.length_drop, hcl, Nat.sub_mul]
  have hcpB : ∀ (W : World), (∀ x, W.cell? x = (W1.setCells w.heap.size (i * 4) vs).cell? x) → (∀ x, W.frozen? x = (W1.setCells w.heap.size (i * 4) vs).frozen? x) → ∀ ty dc sc, (Builtin.copy_ #[95, 95] ty #[.slice (some ⟨w.heap.size, i * 4 + 4, none⟩) (n - i) dc, .slice (some ⟨b, off + i * 4, none⟩) (n - i) sc]).run Go.Proofs.Tryz.prog W = .ok (goInt (Nat.min (n - i) (n - i))) (W.setCells w.heap.size (i * 4 + 4) (cs.drop (i * 4))) := fun W hWc hWf ty dc sc =>
    run_copy_sz W _ _ ty 145 4 w.heap.size (i * 4 + 4) (n - i) dc ⟨b, off + i * 4, none⟩ (n - i) sc (cs.drop (i * 4)) insU insZ (by rw [hdl]; congr 1; simp only [Nat.min_def]; split <;> omega)
      (fun j v hj => by
        rw [Addr.add_lit, hWc, World.cell?_setCells_out _ _ _ _ _ (fun h _ => absurd h hbN), Nat.add_assoc]
        exact hOb _ v (hcs (i * 4 + j) v (by rwa [List.getElem?_drop] at hj)))
      (fun j hj => by rw [hWc]; exact isSome_setCells _ _ _ _ (fun t ht => hN _ (by omega)) _ (hN _ (by omega)))
      (fun j hj => by rw [hWf, World.frozen?_setCells]; exact hNf _) (fun v hv => h1c v (List.mem_of_mem_drop hv))
  subst hW1
  have hE1 : ∀ x, ((w.alloc (.cells ROW 145)).drew).cell? x = (w.drew.alloc (.cells ROW 145)).cell? x := fun x => rfl
  have hE2 : ∀ x, ((w.alloc (.cells ROW 145)).drew).frozen? x = (w.drew.alloc (.cells ROW 145)).frozen? x := fun x => rfl
  have hF1 : ∀ x, (((w.alloc (.cells ROW 145)).drew.setCells w.heap.size (i * 4) vs).drew).cell? x = ((w.drew.alloc (.cells ROW 145)).setCells w.heap.size (i * 4) vs).cell? x := fun x => rfl
  have hF2 : ∀ x, (((w.alloc (.cells ROW 145)).drew.setCells w.heap.size (i * 4) vs).drew).frozen? x = ((w.drew.alloc (.cells ROW 145)).setCells w.heap.size (i * 4) vs).frozen? x := fun x => rfl
  have hw1 : IntKind.i64.wrap ((i : Int) + 1) = (i : Int) + 1 := by rw [IntKind.wrap_i64]; omega
  have hb1 : (0 : Int) ≤ (i : Int) + 1 := by omega
  have hin : i ≤ n := by omega
  have htn : ((i : Int) + 1).toNat = i + 1 := by omega
  have hb3 : (i : Int) ≤ (n : Int) := by omega
  clear hkk hik hold hROW hG hdl hi0 hz0 hzs hzb
  have mixed : Go.Proofs.Tryz.prog.follows .mixedOrders = true := by kernel_rfl
  go_enter Go.Proofs.Tryz.func128, Go.Proofs.Tryz.ntmps128
  go_wp2_with (first
    | (at_builtin; refine Lib.wpList_append_run _ rfl _ _ _ _ rfl _ _ rfl rfl _ _ (hrz _) ?_)
    | (at_builtin; refine wpList_copy_runI _ rfl _ _ 95 95 rfl _ _ rfl rfl (hcpA _ hE1 hE2 _ _) ?_)
    | (at_builtin; refine wpList_copy_runI _ rfl _ _ 95 95 rfl _ _ rfl rfl (hcpB _ (fun _ => rfl) (fun _ => rfl) _ _ _) ?_))
  go_region_law_o (refine step_copy_runI rfl _ _ 95 95 rfl (.slice (some ⟨w.heap.size, i * 4 + 4, none⟩) (n - i) (G - (i + 1))) (.slice (some ⟨b, off + i * 4, none⟩) (n - i) (c - i)) (by simp [Act.eval, Act.put]) (by simp [Act.eval, Act.put]) (hcpB _ hF1 hF2 3 (G - (i + 1)) (c - i)) ?_)
  go_wp2
  go_ret
  exact ⟨G, ROW, hGn, hRl, hRt, rfl, rfl⟩
def sv (s : Sess) : List Value := [vi s.client, vi s.seq, .bool s.res.done, vi s.res.val]
theorem sv_len (s : Sess) : (sv s).length = 4 := rfl
theorem sv_one (l : List Sess) : ∀ v ∈ l.flatMap sv, v.oneCell' = true := by
  intro v hv
  obtain ⟨s, _, hs⟩ := List.mem_flatMap.1 hv
  simp only [sv, List.mem_cons, List.not_mem_nil, or_false] at hs
  rcases hs with rfl | rfl | rfl | rfl <;> rfl
theorem noS (l : List Sess) (x : Nat) (e : List T) (h : (l.map eSess)[x]? = some e) (y : Nat) (t : T) (ht : e[y]? = some t) (z : Nat) (zs : List (List T)) : t ≠ .s true z zs := by
  rw [List.getElem?_map] at h
  cases ha : l[x]? with
  | none => simp [ha] at h
  | some a =>
    simp only [ha, Option.map_some, Option.some.injEq] at h
    subst h
    rcases y with _ | _ | _ | _ | y <;> simp [eSess] at ht <;> subst ht <;> simp
theorem ins_flat (l : List Sess) (i : Nat) (x : Sess) (hi : i < l.length) : (l.take i ++ x :: l.drop i).flatMap sv = (l.flatMap sv).take (i * 4) ++ sv x ++ (l.flatMap sv).drop (i * 4) := by
  rw [List.flatMap_append, List.flatMap_cons, cf_take sv_len l i (by omega), cf_drop sv_len l i (by omega), List.append_assoc]
theorem insB (l : List Sess) (i : Nat) (x : Sess) (hi : i < l.length) (hl : l.length ≤ 1048576) : Fn Go.Proofs.Tryz.prog 128 [.c (.s true 4 (l.map eSess)), .c (.v (vi i)), .c (.s false 4 ([x].map eSess))] [.c .d, .c .d, .c .d] [.c (.s true 4 ((l.take i ++ x :: l.drop i).map eSess))] := by
  refine Fn.rowG ⟨_, Go.Proofs.Tryz.func128, by simp [Go.Proofs.Tryz.f128], by simp [Go.Proofs.Tryz.f128]⟩ (noS _) (noS _) (own_eSess _) ?_
  intro w X a b o c y hrow hcap hB
  have e1 : (l.map eSess).length = l.length := List.length_map ..
  have e2 : ([x].map eSess).length = 1 := rfl
  rw [e1]
  have hlc : l.length ≤ c := by have := (hrow (fun _ _ => ⟨0, 0, 0⟩)).1; simpa using this
  have hc0 : c ≠ 0 := by omega
  obtain ⟨rfl, hb1, hX⟩ := hcap hc0
  obtain ⟨cc, E, g1, g2, g3⟩ := flat_of_row (f := sv) sv_len (hrow (fun _ _ => ⟨0, 0, 0⟩)) hc0
  dsimp only at g1 g2 g3
  have hBy := hB
  cases hB with
  | mk a2 cap2 _ _ vb vo g hl2 hsz ha hcc htt =>
  rcases ha with ha | ⟨rfl, hnX⟩
  · simp at ha
  have hv := flat_of_bor (f := sv) sv_len (l := [x]) hBy
  rw [e2]
  have hvx : [x].flatMap sv = sv x := by simp
  rw [hvx] at hv
  have hvb : vb ≠ b := fun e => hnX (e ▸ hX)
  have h0 := hv 0 _ rfl
  have hvw : vb < w.heap.size := block_lt_of_cell h0
  have hlen : ((l.take i ++ x :: l.drop i).map eSess).length = l.length + 1 := by simp; omega
  have hcs : ∀ (j : Nat) (v : Value), (l.flatMap sv)[j]? = some v → w.cell? ⟨b, o + j, none⟩ = some v := fun j v h => by simp [World.cell?, g1, g3 j v h]
  have h1v : ∀ v ∈ sv x, v.oneCell' = true := fun v h => sv_one [x] v (by rw [hvx]; exact h)
  have hpl : ((l.flatMap sv).take (i * 4)).length = i * 4 := by rw [List.length_take, cf_len sv_len]; omega
  have hdl : ((l.flatMap sv).drop (i * 4)).length = (l.length - i) * 4 := by rw [List.length_drop, cf_len sv_len]; omega
  have hk0 : Keep ⟨w, X, fun _ => none⟩ w := ⟨rfl, rfl, rfl, Nat.le_refl _, fun _ _ _ => rfl⟩
  by_cases hroom : l.length + 1 ≤ c
  · obtain ⟨tA, kA, hsa, hkA⟩ : ∃ tA kA, w.shape? vb = some (tA, kA) ∧ kA ≠ 0 := by
      unfold World.cell? at h0
      unfold World.shape?
      dsimp only at h0 ⊢
      split at h0
      · rename_i c2 E2 fr hq
        simp at h0
        exact ⟨_, _, rfl, by have := (Array.getElem?_eq_some_iff.1 h0).1; omega⟩
      · cases h0
    have hsp : ∀ j, j < (l.length + 1) * 4 → (w.cell? ⟨b, o + j, none⟩).isSome = true := fun j hj => by
      have : o + j < cc.size := by omega
      simp [World.cell?, g1, Array.getElem?_eq_getElem this]
    have hfz : ∀ j, w.frozen? ⟨b, j, none⟩ = false := fun j => by simp [World.frozen?, g1]
    have hsb : w.shape? b = some (E, cc.size) := by simp [World.shape?, g1]
    have hc1 : cc.size ≠ 0 := by omega
    have hC := ins_shift b o l.length c i vb vo cap2 (l.flatMap sv) (sv x) w hi hl hroom hvb (cf_len sv_len l) (sv_len x) hcs hsp hfz hv (sv_one l) h1v tA E kA cc.size hsa hkA hsb hc1
    refine Calls.mono hC ?_
    intro e w' ⟨he, hw⟩
    obtain ⟨c', q1, q2, q3⟩ := (two_cells (w := w.drew) (b := b) (off := o) (c := cc) (E := E) g1 (pre := (l.flatMap sv).take (i * 4)) (mid := sv x) (post := (l.flatMap sv).drop (i * 4)) (by rw [hpl, hdl, sv_len]; omega) (fun j v h => g3 j v (by
        rw [List.getElem?_take] at h
        split at h
        · exact h
        · cases h)) (p := o + i * 4) (q := o + i * 4 + 4) (by rw [hpl]) (by rw [hpl, sv_len])).1
    have hk1 : Keep ⟨w, X, fun _ => none⟩ w' := by rw [hw]; exact (hk0.drew.setCells' (.inr hX)).setCells' (.inr hX)
    rw [← hw] at q1
    refine ⟨⟨b, o, c⟩, _, by rw [hlen]; exact he, fun _ => rfl, fun ch => ?_, hk1, fun _ => ⟨?_, .inr hX⟩⟩
    · exact row_of_flat (f := sv) (k := 4) sv_len (by simp at hlen ⊢; omega) q1 (by rw [q2]; exact g2) (fun m v h => q3 m v (by rw [ins_flat l i x hi] at h; exact h))
    · exact (Array.getElem?_eq_some_iff.1 q1).1
  · have hC := ins_grow b o l.length c i vb vo cap2 (l.flatMap sv) (sv x) w hi hl hlc (by omega) hvw (cf_len sv_len l) (sv_len x) hcs hv (sv_one l) h1v
    refine Calls.mono hC ?_
    intro e w' ⟨G, ROW, r1, r2, r3, he, hw⟩
    have ha : ((w.alloc (.cells ROW 145)).drew).heap[w.heap.size]? = some (.cells ROW 145 (0, 0)) := alloc_heap_new w _
    obtain ⟨c', q1, q2, q3⟩ := (two_cells (w := (w.alloc (.cells ROW 145)).drew) (b := w.heap.size) (off := 0) (c := ROW) (E := 145) ha (pre := (l.flatMap sv).take (i * 4)) (mid := sv x) (post := (l.flatMap sv).drop (i * 4)) (by rw [hpl, hdl, sv_len]; omega) (fun j v h => by rw [Nat.zero_add]; exact r3 j v h)
      (p := i * 4) (q := i * 4 + 4) (by rw [hpl]; omega) (by rw [hpl, sv_len]; omega)).2
    have hk1 : Keep ⟨w, X, fun _ => none⟩ w' := by rw [hw]; exact (((hk0.alloc _).drew.setCells' (.inl (Nat.le_refl _))).drew).setCells' (.inl (Nat.le_refl _))
    rw [← hw] at q1
    refine ⟨⟨w.heap.size, 0, G⟩, _, by rw [hlen]; exact he, fun _ => rfl, fun ch => ?_, hk1, fun _ => ⟨?_, .inl (Nat.le_refl _)⟩⟩
    · exact row_of_flat (f := sv) (k := 4) sv_len (by simp at hlen ⊢; omega) q1 (by rw [q2]; omega) (fun m v h => q3 m v (by rw [ins_flat l i x hi] at h; exact h))
    · exact (Array.getElem?_eq_some_iff.1 q1).1
end
theorem insA  (l : List Sess) (x : Sess) (hl : l.length ≤ 1048576) (l0 : List Sess) (he : l ++ [x] = l0) : Fn Go.Proofs.Tryz.prog 128 [.c (.s true 4 (l.map eSess)), .c (.v (vi l.length)), .c (.s false 4 ([x].map eSess))] [.c .d, .c .d, .c .d] [.c (.s true 4 ((l0).map eSess))] := by
  refine E.Fn.evC (n := 95) mdL false mix Go.Proofs.Tryz.func128 rfl (by simp [Go.Proofs.Tryz.f128]) Go.Proofs.Tryz.ntmps128 (by simp) (by kernel_rfl) (t := 6) (ty := 95) (sz := 4) (r := (l0).map eSess) rfl rfl ki95 rfl (by simp [OWN]) ?_
  simp only [go_sem]
  repeat' (first
    | simp only [IJS]
    | (refine E.GB.use (fun h => ?_) (fun h => ?_) <;> (simp only [go_sem, h]) <;> (try simp only [HFS] at h))
    | apply And.intro
    | omega
    | (exact absurd trivial h; done)
    | ((subst he; rw [List.map_append]; rfl); done)
    | fail)
theorem ins_c (l : List Sess) (k : Int) (i : Nat) (hk : k = i) (x : Sess) (hi : i ≤ l.length) (hl : l.length ≤ 1048576) : Fn Go.Proofs.Tryz.prog 128 [.c (.s true 4 (l.map eSess)), .c (.v (vi k)), .c (.s false 4 [eSess x])] [.c .d, .c .d, .c .d] [.c (.s true 4 ((l.take i ++ x :: l.drop i).map eSess))] := by
  subst hk
  by_cases h : i = l.length
  · subst h
    rw [List.take_length, List.drop_length]
    exact insA l x hl _ rfl
  · exact insB l i x (by omega) hl
end Go.Abs

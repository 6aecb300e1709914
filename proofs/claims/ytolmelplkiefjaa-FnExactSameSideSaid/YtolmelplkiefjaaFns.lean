/- Contracts of the functions that these laws reach, over the abstract machine. No condition. -/
import Derived.Test.YtolmelplkiefjaaMachSix
import Derived.KernelRfl
import Derived.Test.YtolmelplkiefjaaProg
set_option linter.unusedVariables false
set_option linter.unusedSimpArgs false
set_option linter.unnecessarySimpa false
set_option linter.constructorNameAsVariable false
set_option maxHeartbeats 4000000
namespace Go.Abs
open Go
abbrev vi (x : Int) : Value := .int .i64 x
def eInt (x : Int) : List T := [.v (vi x)]
theorem eInt_eq (x : Int) : eInt x = [.v (vi x)] := rfl
theorem own_eInt (l : List Int) : ownEs (l.map eInt) = true := E.ownEs_map (fun _ => rfl) l
theorem bor_eInt (l : List Int) : borEs (l.map eInt) = l.map eInt := E.borEs_map (fun _ => rfl) l
theorem scal_eInt (l : List Int) : scalEs (l.map eInt) = true := E.scalEs_map (fun _ => rfl) l
theorem one_eInt (l : List Int) : oneEs (l.map eInt) = true := E.oneEs_map (fun _ => rfl) l
def noMd : Nat → Nat → Bool := fun _ _ => false
theorem el24 : elemOf Go.Proofs.Try.prog 24 = some 3 := by kernel_rfl
theorem sz3 : szOf Go.Proofs.Try.prog 3 = some 1 := by kernel_rfl
theorem by3 : bytesOf Go.Proofs.Try.prog 3 = some 8 := by kernel_rfl
theorem ag3 : aggOf Go.Proofs.Try.prog 3 = some false := by kernel_rfl
theorem ze3 : zeroOf Go.Proofs.Try.prog 3 = some [.v (vi 0)] := by kernel_rfl
theorem ki3 : kinds Go.Proofs.Try.prog 12 3 = some [none] := by kernel_rfl
theorem ki4 : kinds Go.Proofs.Try.prog 12 4 = some [none] := by kernel_rfl
theorem ki24 : kinds Go.Proofs.Try.prog 12 24 = some [some 1] := by kernel_rfl
theorem un24 : Go.Proofs.Try.prog.underlying 24 = some (.slice 3) := by kernel_rfl
theorem un4 : Go.Proofs.Try.prog.underlying 4 = some .bool := by kernel_rfl
theorem mix : Go.Proofs.Try.prog.follows .mixedOrders = true := by kernel_rfl
attribute [local go_sem ↓] E.wq_ret E.wq_req E.wq_bad E.wq_call E.wq_get E.wq_getO E.wq_getOs E.wq_getPs E.wq_fresh E.wq_anyNil E.wq_getR0 E.wq_getR E.wq_ixM E.wq_n E.wq_g E.wq_gn E.ev_skip E.ev_region E.ev_draw E.ev_seq E.ev_cond E.ev_block E.ev_exit E.ev_ret E.sq_n E.sq_e E.sq_r E.bl_n E.bl_e E.bl_r E.lp_n E.lp_e E.lp_r E.fk_n E.fk_r E.q_move E.q_assign E.q_pick E.q_bin E.q_binw E.q_un E.q_alloc E.q_box E.q_build E.q_buildS E.q_makeS E.q_load E.q_store E.q_nilCheck E.q_slice E.q_fieldAddr E.q_field E.q_indexAddr E.q_extract E.q_makeFunc E.q_call E.q_callT E.q_len E.q_append E.q_min E.q_max E.b_add E.b_sub E.b_mul E.b_eql E.b_neq E.b_lss E.b_leq E.b_gtr E.b_geq E.GO_tmp E.GO_int E.GO_bool E.GO_str E.GO_nil E.GO_func E.GOs_nil E.GOs_cons E.GPs_nil E.GPs_cons E.RW_nil E.RW_cons E.dstAt_0 E.dstAt_s E.keepL_nil E.keepL_s E.keepL_k E.memN_nil E.memN_cons E.memK_nil E.memK_cons ofL_s ofL_sk ofL_ks ofL_k ofL_nil E.CO_tmp E.CO_bool
attribute [local go_sem] E.RM_nil E.RM_cons E.kd_k E.sbr_eq E.s3_nil E.s3_s E.s3_k E.vr_c E.vr_a E.vr_p E.vr_q E.vr_t E.vr_f E.vr_u E.cr_r E.cr_v E.cr_b E.cr_n E.cr_u E.crs_nil E.crs_cons E.renK_nil E.renK_cons keysVs V.keys C.keys keysCs E.RG_nil E.RG_cons E.GV_v E.GB_true E.GB_false E.GX_b E.GG_t E.GG_f E.GG_u E.GU_some E.IX_0 E.IX_s E.CX_s E.FR_none E.EN_e E.GVB_b E.b_boolM E.b_nilM E.b_strM E.b_aggM List.cons_append List.nil_append List.append_nil List.length_cons List.length_nil List.length_map el24 sz3 by3 ag3 ze3 ki3 ki4 ki24 un4 un24 callM argsA argA cellA cellsA capsA capA callable backs backT resVs resV resC tupV lenV intV boolV put ovl getE getO noMd entryL entryKs A.ts entryV entryC entryCs entryCap List.map_cons List.map_nil whole toB toC List.drop_zero List.take_zero List.take_succ_cons List.drop_succ_cons resultsM resultM outM outM1 convs conv finAs finA finT Int.toNat_natCast Nat.zero_add Nat.add_zero own_eInt bor_eInt scal_eInt one_eInt E.take_len E.app1 eInt_eq partCells V.cells convsL appendM srcM E.scalEs_nil E.scalEs_cons E.oneEs_nil E.oneEs_cons List.all_cons List.all_nil T.one Bool.and_true gone ownEs ownE ownT borEs borE borT setRow splice List.set_cons_zero List.set_cons_succ optI getOpt sliceM ptrTo app_ofL T.isV Value.oneCell'
attribute [local irreducible] E.GV E.GB E.GX E.GG E.GU E.IX E.CX E.RW E.FR E.EN E.CALL E.GO E.GOs E.GPs E.GVB E.KD E.RM E.RG E.CO E.WQ E.EV E.SQ E.BL E.LP E.FK E.S3 E.RK E.NEXT E.NQ E.INDEP


def inR (x lo hi : Int) : Bool := decide (lo ≤ x) && decide (x ≤ hi)
theorem inR_of {x lo hi : Int} (h : inR x lo hi = true) : lo ≤ x ∧ x ≤ hi := by
  simpa [inR] using h
def side (x : Int) : Bool := inR x 0 3
def areSides (l : List Int) : Bool := l.all side && ((l.length : Int) == 5)
theorem areSides_len {l : List Int} (h : areSides l = true) : l.length = 5 := by
  simp only [areSides, Bool.and_eq_true, beq_iff_eq] at h
  omega
def sameSide (l : List Int) (a b : Int) : Bool := areSides l && inR a 0 4 && inR b 0 4 && (at' l a.toNat == at' l b.toNat)
def msGo (i : Nat) : List Int → List Int
  | [] => []
  | x :: xs => if x = 0 then (i : Int) :: msGo (i + 1) xs else msGo (i + 1) xs
def masterSide (l : List Int) : List Int := if areSides l then msGo 0 l else []
def heldI : List Int → Int → Int
  | [], k => k
  | x :: xs, k => if x = k then heldI xs (k + 1) else -1
def markI (l : List Int) (k : Int) : List Int := (List.range l.length).map fun (i : Nat) => k + i
theorem held_mark (l : List Int) (k : Int) : heldI (markI l k) k = k + l.length := by
  have : ∀ (n : Nat) (j : Nat), heldI ((List.range' j n).map fun (i : Nat) => k + i) (k + j) = k + j + n := by
    intro n
    induction n with
    | zero => intro j; simp [heldI]
    | succ n ih =>
      intro j
      simp only [List.range'_succ, List.map_cons, heldI, if_true]
      have := ih (j + 1)
      rw [show k + (j : Int) + 1 = k + ((j + 1 : Nat) : Int) by omega, this]
      omega
  have h0 := this l.length 0
  simp only [markI, List.range_eq_range']
  simpa using h0
theorem markI_len (l : List Int) (k : Int) : (markI l k).length = l.length := by simp [markI]
def reach (l : List Int) (id : Int) : List Int := [0, 1, 2, 3, 4].filter fun x => sameSide l id x
def moveSide (l : List Int) (id s : Int) : List Int × Bool := if areSides l && inR id 0 4 && inR s 0 3 then (l.set id.toNat s, true) else (l, false)

theorem in_spec (x lo hi : Int) : Fn Go.Proofs.Try.prog 25 [.c (.v (vi (x))), .c (.v (vi (lo))), .c (.v (vi (hi)))] [.c .d, .c .d, .c .d] [.c (.v (.bool (inR x lo hi)))] := by
  refine E.Fn.ev (n := 15) noMd false mix Go.Proofs.Try.func25 rfl (by simp [Go.Proofs.Try.f25]) Go.Proofs.Try.ntmps25 (by simp) (by kernel_rfl) (rs := [.tmp 6]) (tys := [4]) rfl rfl rfl rfl ?_
  simp only [go_sem, reduceIte, Nat.reduceEqDiff, reduceCtorEq, Nat.reduceAdd, Nat.reduceMul]
  repeat' (first
    | with_reducible rfl
    | exact trivial
    | simp only [List.cons.injEq, A.c.injEq, A.a.injEq, T.v.injEq, T.s.injEq, Value.bool.injEq, Value.int.injEq, and_true, true_and]
    | (refine E.GB.use (fun h => ?_) (fun h => ?_) <;> (simp only [go_sem, reduceIte, Nat.reduceEqDiff, reduceCtorEq, Nat.reduceAdd, Nat.reduceMul, h]) <;> (try simp only [decide_eq_true_eq, decide_eq_false_iff_not, Bool.not_eq_true', Bool.not_eq_false', Bool.not_eq_true, Bool.not_eq_false, beq_iff_eq, beq_eq_false_iff_ne, bne_iff_ne, bne_eq_false_iff_eq, Int.not_lt, Int.not_le, ne_eq] at h))
    | exact E.INDEP.mk (by kernel_rfl)
    | (refine E.NQ.use (fun b hb => ?_); simp only [go_sem, reduceIte, Nat.reduceEqDiff, reduceCtorEq, Nat.reduceAdd, Nat.reduceMul])
    | exact E.RK.mk (by kernel_rfl)
    | (refine E.IX_map ?_ (fun hx => ?_); rotate_left; simp only [go_sem, reduceIte, Nat.reduceEqDiff, reduceCtorEq, Nat.reduceAdd, Nat.reduceMul])
    | apply And.intro
    | omega
    | (dsimp only; omega)
    | (push_cast; with_reducible rfl)
    | refine congrArg (List.map _) ?_
    | (simp [inR]; omega; done)
    | (simp [inR, *]; done)
    | fail)

theorem in_impl (x lo hi : Int) : Fn Go.Proofs.Try.prog 26 [.c (.v (vi (x))), .c (.v (vi (lo))), .c (.v (vi (hi)))] [.c .d, .c .d, .c .d] [.c (.v (.bool (inR x lo hi)))] := by
  refine E.Fn.ev (n := 15) noMd false mix Go.Proofs.Try.func26 rfl (by simp [Go.Proofs.Try.f26]) Go.Proofs.Try.ntmps26 (by simp) (by kernel_rfl) (rs := [.tmp 6]) (tys := [4]) rfl rfl rfl rfl ?_
  simp only [go_sem, reduceIte, Nat.reduceEqDiff, reduceCtorEq, Nat.reduceAdd, Nat.reduceMul]
  repeat' (first
    | with_reducible rfl
    | exact trivial
    | simp only [List.cons.injEq, A.c.injEq, A.a.injEq, T.v.injEq, T.s.injEq, Value.bool.injEq, Value.int.injEq, and_true, true_and]
    | (refine E.GB.use (fun h => ?_) (fun h => ?_) <;> (simp only [go_sem, reduceIte, Nat.reduceEqDiff, reduceCtorEq, Nat.reduceAdd, Nat.reduceMul, h]) <;> (try simp only [decide_eq_true_eq, decide_eq_false_iff_not, Bool.not_eq_true', Bool.not_eq_false', Bool.not_eq_true, Bool.not_eq_false, beq_iff_eq, beq_eq_false_iff_ne, bne_iff_ne, bne_eq_false_iff_eq, Int.not_lt, Int.not_le, ne_eq] at h))
    | exact E.INDEP.mk (by kernel_rfl)
    | (refine E.NQ.use (fun b hb => ?_); simp only [go_sem, reduceIte, Nat.reduceEqDiff, reduceCtorEq, Nat.reduceAdd, Nat.reduceMul])
    | exact E.RK.mk (by kernel_rfl)
    | (refine E.IX_map ?_ (fun hx => ?_); rotate_left; simp only [go_sem, reduceIte, Nat.reduceEqDiff, reduceCtorEq, Nat.reduceAdd, Nat.reduceMul])
    | apply And.intro
    | omega
    | (dsimp only; omega)
    | (push_cast; with_reducible rfl)
    | refine congrArg (List.map _) ?_
    | (simp [inR]; omega; done)
    | (simp [inR, *]; done)
    | fail)

theorem areSides_spec (l : List Int) (hl : l.length ≤ 1048576) : Fn Go.Proofs.Try.prog 11 [.c (.s false 1 ((l).map eInt))] [.c .d] [.c (.v (.bool (areSides l)))] := by
  refine E.Fn.ev (n := 19) noMd false mix Go.Proofs.Try.func11 rfl (by simp [Go.Proofs.Try.f11]) Go.Proofs.Try.ntmps11 (by simp) (by kernel_rfl) (rs := [.tmp 2]) (tys := [4]) rfl rfl rfl rfl ?_
  simp only [go_sem, reduceIte, Nat.reduceEqDiff, reduceCtorEq, Nat.reduceAdd, Nat.reduceMul]
  repeat' (first
    | with_reducible rfl
    | exact trivial
    | simp only [List.cons.injEq, A.c.injEq, A.a.injEq, T.v.injEq, T.s.injEq, Value.bool.injEq, Value.int.injEq, and_true, true_and]
    | (refine E.CALL.use (in_spec _ _ _) ?_; simp only [go_sem, reduceIte, Nat.reduceEqDiff, reduceCtorEq, Nat.reduceAdd, Nat.reduceMul])
    | (refine E.GB.use (fun h => ?_) (fun h => ?_) <;> (simp only [go_sem, reduceIte, Nat.reduceEqDiff, reduceCtorEq, Nat.reduceAdd, Nat.reduceMul, h]) <;> (try simp only [decide_eq_true_eq, decide_eq_false_iff_not, Bool.not_eq_true', Bool.not_eq_false', Bool.not_eq_true, Bool.not_eq_false, beq_iff_eq, beq_eq_false_iff_ne, bne_iff_ne, bne_eq_false_iff_eq, Int.not_lt, Int.not_le, ne_eq] at h))
    | exact E.INDEP.mk (by kernel_rfl)
    | (refine E.NQ.use (fun b hb => ?_); simp only [go_sem, reduceIte, Nat.reduceEqDiff, reduceCtorEq, Nat.reduceAdd, Nat.reduceMul])
    | exact E.RK.mk (by kernel_rfl)
    | (refine E.IX_map ?_ (fun hx => ?_); rotate_left; simp only [go_sem, reduceIte, Nat.reduceEqDiff, reduceCtorEq, Nat.reduceAdd, Nat.reduceMul])
    | (refine E.loopR (ι := Nat) 2 rfl (fun i => [(.s 3, .v (.c (.v (vi i))))]) [0, 16, 17, 18] [] [] (fun i => (l).length - i) (fun i => i ≤ (l).length ∧ ((l.drop i).all side && ((l.length : Int) == 5)) = areSides l) mix (by kernel_rfl) 0 ?_ ?_ (fun i ⟨hi, hR⟩ => ?_); all_goals (try simp only [go_sem, reduceIte, Nat.reduceEqDiff, reduceCtorEq, Nat.reduceAdd, Nat.reduceMul]); all_goals (try dsimp only at hi hR))
    | (refine E.NEXT.use [] (i + 1) ?_ ?_ ?_; rotate_left 2; focus (simp only [go_sem, reduceIte, Nat.reduceEqDiff, reduceCtorEq, Nat.reduceAdd, Nat.reduceMul]; (repeat' (first | with_reducible rfl | exact E.RK.mk (by kernel_rfl) | apply And.intro | (push_cast; with_reducible rfl) | (refine E.int_c ?_; omega) | (simp only [go_sem, reduceIte, Nat.reduceEqDiff, reduceCtorEq, Nat.reduceAdd, Nat.reduceMul]; done) | (simp; done) | fail)); done))
    | apply And.intro
    | omega
    | (dsimp only; omega)
    | (push_cast; with_reducible rfl)
    | refine congrArg (List.map _) ?_
    | (rw [drop_at (l := l) (i := i) (by omega)] at hR; simpa [side, h] using hR; done)
    | (rw [E.drop_end (l := l) (i := i) (by omega)] at hR; simpa using hR; done)
    | (simp [areSides]; done)
    | fail)

theorem notSide (x : Int) : Fn Go.Proofs.Try.prog 28 [.c (.v (vi (x)))] [.c .d] [.c (.v (.bool (!side x)))] := by
  refine E.Fn.ev (n := 6) noMd false mix Go.Proofs.Try.func28 rfl (by simp [Go.Proofs.Try.f28]) Go.Proofs.Try.ntmps28 (by simp) (by kernel_rfl) (rs := [.tmp 2]) (tys := [4]) rfl rfl rfl rfl ?_
  simp only [go_sem, reduceIte, Nat.reduceEqDiff, reduceCtorEq, Nat.reduceAdd, Nat.reduceMul]
  repeat' (first
    | with_reducible rfl
    | exact trivial
    | simp only [List.cons.injEq, A.c.injEq, A.a.injEq, T.v.injEq, T.s.injEq, Value.bool.injEq, Value.int.injEq, and_true, true_and]
    | (refine E.CALL.use (in_impl _ _ _) ?_; simp only [go_sem, reduceIte, Nat.reduceEqDiff, reduceCtorEq, Nat.reduceAdd, Nat.reduceMul])
    | (refine E.GB.use (fun h => ?_) (fun h => ?_) <;> (simp only [go_sem, reduceIte, Nat.reduceEqDiff, reduceCtorEq, Nat.reduceAdd, Nat.reduceMul, h]) <;> (try simp only [decide_eq_true_eq, decide_eq_false_iff_not, Bool.not_eq_true', Bool.not_eq_false', Bool.not_eq_true, Bool.not_eq_false, beq_iff_eq, beq_eq_false_iff_ne, bne_iff_ne, bne_eq_false_iff_eq, Int.not_lt, Int.not_le, ne_eq] at h))
    | exact E.INDEP.mk (by kernel_rfl)
    | (refine E.NQ.use (fun b hb => ?_); simp only [go_sem, reduceIte, Nat.reduceEqDiff, reduceCtorEq, Nat.reduceAdd, Nat.reduceMul])
    | exact E.RK.mk (by kernel_rfl)
    | (refine E.IX_map ?_ (fun hx => ?_); rotate_left; simp only [go_sem, reduceIte, Nat.reduceEqDiff, reduceCtorEq, Nat.reduceAdd, Nat.reduceMul])
    | apply And.intro
    | omega
    | (dsimp only; omega)
    | (push_cast; with_reducible rfl)
    | refine congrArg (List.map _) ?_
    | (simp [side]; done)
    | fail)


def idx (p : Int → Bool) (l : List Int) : Int := match l.findIdx? p with
  | some i => i
  | none => -1
def idxGo (p : Int → Bool) (i : Nat) : List Int → Int
  | [] => -1
  | x :: xs => if p x then i else idxGo p (i + 1) xs
theorem idxGo_nonneg (p : Int → Bool) : ∀ (l : List Int) (i : Nat), decide (0 ≤ idxGo p i l) = l.any p
  | [], i => by simp [idxGo]
  | x :: xs, i => by
    have := idxGo_nonneg p xs (i + 1)
    simp only [idxGo, List.any_cons]
    by_cases h : p x = true <;> simp [h, this]

theorem idx_c (l : List Int) (p : Int → Bool) (f : Nat) (hl : l.length ≤ 1048576) (hp : ∀ x, Fn Go.Proofs.Try.prog f [.c (.v (vi x))] [.c .d] [.c (.v (.bool (p x)))]) : Fn Go.Proofs.Try.prog 30 [.c (.s false 1 ((l).map eInt)), .f f []] [.c .d, .f f []] [.c (.v (vi (idxGo p 0 l)))] := by
  refine E.Fn.ev (n := 19) noMd false mix Go.Proofs.Try.func30 rfl (by simp [Go.Proofs.Try.f30]) Go.Proofs.Try.ntmps30 (by simp) (by kernel_rfl) (rs := [.tmp 4]) (tys := [3]) rfl rfl rfl rfl ?_
  simp only [go_sem, reduceIte, Nat.reduceEqDiff, reduceCtorEq, Nat.reduceAdd, Nat.reduceMul]
  repeat' (first
    | with_reducible rfl
    | exact trivial
    | simp only [List.cons.injEq, A.c.injEq, A.a.injEq, T.v.injEq, T.s.injEq, Value.bool.injEq, Value.int.injEq, and_true, true_and]
    | (refine E.CALL.use (hp _) ?_; simp only [go_sem, reduceIte, Nat.reduceEqDiff, reduceCtorEq, Nat.reduceAdd, Nat.reduceMul])
    | (refine E.GB.use (fun h => ?_) (fun h => ?_) <;> (simp only [go_sem, reduceIte, Nat.reduceEqDiff, reduceCtorEq, Nat.reduceAdd, Nat.reduceMul, h]) <;> (try simp only [decide_eq_true_eq, decide_eq_false_iff_not, Bool.not_eq_true', Bool.not_eq_false', Bool.not_eq_true, Bool.not_eq_false, beq_iff_eq, beq_eq_false_iff_ne, bne_iff_ne, bne_eq_false_iff_eq, Int.not_lt, Int.not_le, ne_eq] at h))
    | exact E.INDEP.mk (by kernel_rfl)
    | (refine E.NQ.use (fun b hb => ?_); simp only [go_sem, reduceIte, Nat.reduceEqDiff, reduceCtorEq, Nat.reduceAdd, Nat.reduceMul])
    | exact E.RK.mk (by kernel_rfl)
    | (refine E.IX_map ?_ (fun hx => ?_); rotate_left; simp only [go_sem, reduceIte, Nat.reduceEqDiff, reduceCtorEq, Nat.reduceAdd, Nat.reduceMul])
    | (refine E.loopR (ι := Nat) 2 rfl (fun i => [(.s 8, .v (.c (.v (vi i))))]) [0, 1, 7] [] [] (fun i => (l).length - i) (fun i => i ≤ (l).length ∧ idxGo p i (l.drop i) = idxGo p 0 l) mix (by kernel_rfl) 0 ?_ ?_ (fun i ⟨hi, hR⟩ => ?_); all_goals (try simp only [go_sem, reduceIte, Nat.reduceEqDiff, reduceCtorEq, Nat.reduceAdd, Nat.reduceMul]); all_goals (try dsimp only at hi hR))
    | (refine E.NEXT.use [] (i + 1) ?_ ?_ ?_; rotate_left 2; focus (simp only [go_sem, reduceIte, Nat.reduceEqDiff, reduceCtorEq, Nat.reduceAdd, Nat.reduceMul]; (repeat' (first | with_reducible rfl | exact E.RK.mk (by kernel_rfl) | apply And.intro | (push_cast; with_reducible rfl) | (refine E.int_c ?_; omega) | (simp only [go_sem, reduceIte, Nat.reduceEqDiff, reduceCtorEq, Nat.reduceAdd, Nat.reduceMul]; done) | (simp; done) | fail)); done))
    | apply And.intro
    | omega
    | (dsimp only; omega)
    | (push_cast; with_reducible rfl)
    | refine congrArg (List.map _) ?_
    | (rw [drop_at (l := l) (i := i) (by omega)] at hR; simp_all [idxGo]; done)
    | (rw [drop_at (l := l) (i := i) (by omega)] at hR; simp [idxGo, h] at hR; simp [← hR]; done)
    | (rw [E.drop_end (l := l) (i := i) (by omega)] at hR; simp only [idxGo] at hR; simp [← hR]; done)
    | (simp; done)
    | fail)

theorem contains_c (l : List Int) (p : Int → Bool) (f : Nat) (hl : l.length ≤ 1048576) (hp : ∀ x, Fn Go.Proofs.Try.prog f [.c (.v (vi x))] [.c .d] [.c (.v (.bool (p x)))]) : Fn Go.Proofs.Try.prog 27 [.c (.s false 1 ((l).map eInt)), .f f []] [.c .d, .f f []] [.c (.v (.bool (l.any p)))] := by
  refine E.Fn.ev (n := 9) noMd false mix Go.Proofs.Try.func27 rfl (by simp [Go.Proofs.Try.f27]) Go.Proofs.Try.ntmps27 (by simp) (by kernel_rfl) (rs := [.tmp 4]) (tys := [4]) rfl rfl rfl rfl ?_
  simp only [go_sem, reduceIte, Nat.reduceEqDiff, reduceCtorEq, Nat.reduceAdd, Nat.reduceMul]
  repeat' (first
    | with_reducible rfl
    | exact trivial
    | simp only [List.cons.injEq, A.c.injEq, A.a.injEq, T.v.injEq, T.s.injEq, Value.bool.injEq, Value.int.injEq, and_true, true_and]
    | (refine E.CALL.use (idx_c _ p _ hl hp) ?_; simp only [go_sem, reduceIte, Nat.reduceEqDiff, reduceCtorEq, Nat.reduceAdd, Nat.reduceMul])
    | (refine E.GB.use (fun h => ?_) (fun h => ?_) <;> (simp only [go_sem, reduceIte, Nat.reduceEqDiff, reduceCtorEq, Nat.reduceAdd, Nat.reduceMul, h]) <;> (try simp only [decide_eq_true_eq, decide_eq_false_iff_not, Bool.not_eq_true', Bool.not_eq_false', Bool.not_eq_true, Bool.not_eq_false, beq_iff_eq, beq_eq_false_iff_ne, bne_iff_ne, bne_eq_false_iff_eq, Int.not_lt, Int.not_le, ne_eq] at h))
    | exact E.INDEP.mk (by kernel_rfl)
    | (refine E.NQ.use (fun b hb => ?_); simp only [go_sem, reduceIte, Nat.reduceEqDiff, reduceCtorEq, Nat.reduceAdd, Nat.reduceMul])
    | exact E.RK.mk (by kernel_rfl)
    | (refine E.IX_map ?_ (fun hx => ?_); rotate_left; simp only [go_sem, reduceIte, Nat.reduceEqDiff, reduceCtorEq, Nat.reduceAdd, Nat.reduceMul])
    | apply And.intro
    | omega
    | (dsimp only; omega)
    | (push_cast; with_reducible rfl)
    | refine congrArg (List.map _) ?_
    | (rw [← idxGo_nonneg p l 0]; done)
    | fail)


theorem not_any_side (l : List Int) : (!(l.any fun x => !side x)) = l.all side := by
  induction l with
  | nil => rfl
  | cons x l ih => simp [← ih]

theorem areSides_impl (l : List Int) (hl : l.length ≤ 1048576) : Fn Go.Proofs.Try.prog 13 [.c (.s false 1 ((l).map eInt))] [.c .d] [.c (.v (.bool (areSides l)))] := by
  refine E.Fn.ev (n := 11) noMd false mix Go.Proofs.Try.func13 rfl (by simp [Go.Proofs.Try.f13]) Go.Proofs.Try.ntmps13 (by simp) (by kernel_rfl) (rs := [.tmp 2]) (tys := [4]) rfl rfl rfl rfl ?_
  simp only [go_sem, reduceIte, Nat.reduceEqDiff, reduceCtorEq, Nat.reduceAdd, Nat.reduceMul]
  repeat' (first
    | with_reducible rfl
    | exact trivial
    | simp only [List.cons.injEq, A.c.injEq, A.a.injEq, T.v.injEq, T.s.injEq, Value.bool.injEq, Value.int.injEq, and_true, true_and]
    | (refine E.CALL.use (contains_c _ (fun x => !side x) _ hl notSide) ?_; simp only [go_sem, reduceIte, Nat.reduceEqDiff, reduceCtorEq, Nat.reduceAdd, Nat.reduceMul])
    | (refine E.GB.use (fun h => ?_) (fun h => ?_) <;> (simp only [go_sem, reduceIte, Nat.reduceEqDiff, reduceCtorEq, Nat.reduceAdd, Nat.reduceMul, h]) <;> (try simp only [decide_eq_true_eq, decide_eq_false_iff_not, Bool.not_eq_true', Bool.not_eq_false', Bool.not_eq_true, Bool.not_eq_false, beq_iff_eq, beq_eq_false_iff_ne, bne_iff_ne, bne_eq_false_iff_eq, Int.not_lt, Int.not_le, ne_eq] at h))
    | exact E.INDEP.mk (by kernel_rfl)
    | (refine E.NQ.use (fun b hb => ?_); simp only [go_sem, reduceIte, Nat.reduceEqDiff, reduceCtorEq, Nat.reduceAdd, Nat.reduceMul])
    | exact E.RK.mk (by kernel_rfl)
    | (refine E.IX_map ?_ (fun hx => ?_); rotate_left; simp only [go_sem, reduceIte, Nat.reduceEqDiff, reduceCtorEq, Nat.reduceAdd, Nat.reduceMul])
    | apply And.intro
    | omega
    | (dsimp only; omega)
    | (push_cast; with_reducible rfl)
    | refine congrArg (List.map _) ?_
    | (simp only [not_any_side, areSides]; simp_all; done)
    | (simp_all [areSides]; done)
    | fail)

theorem sameSide_spec (l : List Int) (a b : Int) (hl : l.length ≤ 1048576) : Fn Go.Proofs.Try.prog 15 [.c (.s false 1 ((l).map eInt)), .c (.v (vi (a))), .c (.v (vi (b)))] [.c .d, .c .d, .c .d] [.c (.v (.bool (sameSide l a b)))] := by
  refine E.Fn.ev (n := 28) noMd false mix Go.Proofs.Try.func15 rfl (by simp [Go.Proofs.Try.f15]) Go.Proofs.Try.ntmps15 (by simp) (by kernel_rfl) (rs := [.tmp 6]) (tys := [4]) rfl rfl rfl rfl ?_
  simp only [go_sem, reduceIte, Nat.reduceEqDiff, reduceCtorEq, Nat.reduceAdd, Nat.reduceMul]
  repeat' (first
    | with_reducible rfl
    | exact trivial
    | simp only [List.cons.injEq, A.c.injEq, A.a.injEq, T.v.injEq, T.s.injEq, Value.bool.injEq, Value.int.injEq, and_true, true_and]
    | (refine E.CALL.use (areSides_spec _ hl) ?_; simp only [go_sem, reduceIte, Nat.reduceEqDiff, reduceCtorEq, Nat.reduceAdd, Nat.reduceMul])
    | (refine E.CALL.use (in_spec _ _ _) ?_; simp only [go_sem, reduceIte, Nat.reduceEqDiff, reduceCtorEq, Nat.reduceAdd, Nat.reduceMul])
    | (refine E.GB.use (fun h => ?_) (fun h => ?_) <;> (simp only [go_sem, reduceIte, Nat.reduceEqDiff, reduceCtorEq, Nat.reduceAdd, Nat.reduceMul, h]) <;> (try simp only [decide_eq_true_eq, decide_eq_false_iff_not, Bool.not_eq_true', Bool.not_eq_false', Bool.not_eq_true, Bool.not_eq_false, beq_iff_eq, beq_eq_false_iff_ne, bne_iff_ne, bne_eq_false_iff_eq, Int.not_lt, Int.not_le, ne_eq] at h))
    | exact E.INDEP.mk (by kernel_rfl)
    | (refine E.NQ.use (fun b hb => ?_); simp only [go_sem, reduceIte, Nat.reduceEqDiff, reduceCtorEq, Nat.reduceAdd, Nat.reduceMul])
    | exact E.RK.mk (by kernel_rfl)
    | (refine E.IX_map ?_ (fun hx => ?_); rotate_left; simp only [go_sem, reduceIte, Nat.reduceEqDiff, reduceCtorEq, Nat.reduceAdd, Nat.reduceMul])
    | apply And.intro
    | omega
    | (dsimp only; omega)
    | (push_cast; with_reducible rfl)
    | refine congrArg (List.map _) ?_
    | (have q1 := areSides_len (l := l) (by assumption); have q2 := inR_of (x := a) (by assumption); have q3 := inR_of (x := b) (by assumption); omega; done)
    | (simp [sameSide, *]; done)
    | fail)

theorem sameSide_impl (l : List Int) (a b : Int) (hl : l.length ≤ 1048576) : Fn Go.Proofs.Try.prog 16 [.c (.s false 1 ((l).map eInt)), .c (.v (vi (a))), .c (.v (vi (b)))] [.c .d, .c .d, .c .d] [.c (.v (.bool (sameSide l a b)))] := by
  refine E.Fn.ev (n := 28) noMd false mix Go.Proofs.Try.func16 rfl (by simp [Go.Proofs.Try.f16]) Go.Proofs.Try.ntmps16 (by simp) (by kernel_rfl) (rs := [.tmp 6]) (tys := [4]) rfl rfl rfl rfl ?_
  simp only [go_sem, reduceIte, Nat.reduceEqDiff, reduceCtorEq, Nat.reduceAdd, Nat.reduceMul]
  repeat' (first
    | with_reducible rfl
    | exact trivial
    | simp only [List.cons.injEq, A.c.injEq, A.a.injEq, T.v.injEq, T.s.injEq, Value.bool.injEq, Value.int.injEq, and_true, true_and]
    | (refine E.CALL.use (areSides_impl _ hl) ?_; simp only [go_sem, reduceIte, Nat.reduceEqDiff, reduceCtorEq, Nat.reduceAdd, Nat.reduceMul])
    | (refine E.CALL.use (in_impl _ _ _) ?_; simp only [go_sem, reduceIte, Nat.reduceEqDiff, reduceCtorEq, Nat.reduceAdd, Nat.reduceMul])
    | (refine E.GB.use (fun h => ?_) (fun h => ?_) <;> (simp only [go_sem, reduceIte, Nat.reduceEqDiff, reduceCtorEq, Nat.reduceAdd, Nat.reduceMul, h]) <;> (try simp only [decide_eq_true_eq, decide_eq_false_iff_not, Bool.not_eq_true', Bool.not_eq_false', Bool.not_eq_true, Bool.not_eq_false, beq_iff_eq, beq_eq_false_iff_ne, bne_iff_ne, bne_eq_false_iff_eq, Int.not_lt, Int.not_le, ne_eq] at h))
    | exact E.INDEP.mk (by kernel_rfl)
    | (refine E.NQ.use (fun b hb => ?_); simp only [go_sem, reduceIte, Nat.reduceEqDiff, reduceCtorEq, Nat.reduceAdd, Nat.reduceMul])
    | exact E.RK.mk (by kernel_rfl)
    | (refine E.IX_map ?_ (fun hx => ?_); rotate_left; simp only [go_sem, reduceIte, Nat.reduceEqDiff, reduceCtorEq, Nat.reduceAdd, Nat.reduceMul])
    | apply And.intro
    | omega
    | (dsimp only; omega)
    | (push_cast; with_reducible rfl)
    | refine congrArg (List.map _) ?_
    | (have q1 := areSides_len (l := l) (by assumption); have q2 := inR_of (x := a) (by assumption); have q3 := inR_of (x := b) (by assumption); omega; done)
    | (simp [sameSide, *]; done)
    | fail)

theorem masterSide_spec (l : List Int) (hl : l.length ≤ 1048576) : Fn Go.Proofs.Try.prog 17 [.c (.s false 1 ((l).map eInt))] [.c .d] [.c (.s true 1 ((masterSide l).map eInt))] := by
  refine E.Fn.ev (n := 26) noMd false mix Go.Proofs.Try.func17 rfl (by simp [Go.Proofs.Try.f17]) Go.Proofs.Try.ntmps17 (by simp) (by kernel_rfl) (rs := [.tmp 2]) (tys := [24]) rfl rfl rfl (by simp [resOK, A.ts, ownE, ownT, own_eInt]) ?_
  simp only [go_sem, reduceIte, Nat.reduceEqDiff, reduceCtorEq, Nat.reduceAdd, Nat.reduceMul]
  repeat' (first
    | with_reducible rfl
    | exact trivial
    | simp only [List.cons.injEq, A.c.injEq, A.a.injEq, T.v.injEq, T.s.injEq, Value.bool.injEq, Value.int.injEq, and_true, true_and]
    | (refine E.CALL.use (areSides_spec _ hl) ?_; simp only [go_sem, reduceIte, Nat.reduceEqDiff, reduceCtorEq, Nat.reduceAdd, Nat.reduceMul])
    | (refine E.GB.use (fun h => ?_) (fun h => ?_) <;> (simp only [go_sem, reduceIte, Nat.reduceEqDiff, reduceCtorEq, Nat.reduceAdd, Nat.reduceMul, h]) <;> (try simp only [decide_eq_true_eq, decide_eq_false_iff_not, Bool.not_eq_true', Bool.not_eq_false', Bool.not_eq_true, Bool.not_eq_false, beq_iff_eq, beq_eq_false_iff_ne, bne_iff_ne, bne_eq_false_iff_eq, Int.not_lt, Int.not_le, ne_eq] at h))
    | exact E.INDEP.mk (by kernel_rfl)
    | (refine E.NQ.use (fun b hb => ?_); simp only [go_sem, reduceIte, Nat.reduceEqDiff, reduceCtorEq, Nat.reduceAdd, Nat.reduceMul])
    | exact E.RK.mk (by kernel_rfl)
    | (refine E.IX_map ?_ (fun hx => ?_); rotate_left; simp only [go_sem, reduceIte, Nat.reduceEqDiff, reduceCtorEq, Nat.reduceAdd, Nat.reduceMul])
    | (refine E.loopR (ι := Nat × List Int) 3 rfl (fun p => [(.s 4, .v (.c (.v (vi p.1)))), (.s 3, .v (.c (.r (5, 0) 0 [] 0 (p.2).length))), (.k (5, 0), .e ⟨0, 1, (p.2).map eInt⟩)]) [0, 2, 25] [(5, 0)] [] (fun p => l.length - p.1) (fun p => p.1 ≤ l.length ∧ p.2.length ≤ p.1 ∧ p.2 ++ (if areSides l then msGo p.1 (l.drop p.1) else []) = masterSide l) mix (by kernel_rfl) (0, []) ?_ ?_ (fun ⟨i, out⟩ ⟨hi, ho, hR⟩ => ?_); all_goals (try simp only [go_sem, reduceIte, Nat.reduceEqDiff, reduceCtorEq, Nat.reduceAdd, Nat.reduceMul]); all_goals (try dsimp only at hi ho hR))
    | (refine E.NEXT.use [((5, 0), (24, 0))] (i + 1, out ++ [(i : Int)]) ?_ ?_ ?_; rotate_left 2; focus (simp only [go_sem, reduceIte, Nat.reduceEqDiff, reduceCtorEq, Nat.reduceAdd, Nat.reduceMul]; (repeat' (first | with_reducible rfl | exact E.RK.mk (by kernel_rfl) | apply And.intro | (push_cast; with_reducible rfl) | (refine E.int_c ?_; omega) | (simp only [go_sem, reduceIte, Nat.reduceEqDiff, reduceCtorEq, Nat.reduceAdd, Nat.reduceMul]; done) | (simp; done) | fail)); done))
    | (refine E.NEXT.use [] (i + 1, out) ?_ ?_ ?_; rotate_left 2; focus (simp only [go_sem, reduceIte, Nat.reduceEqDiff, reduceCtorEq, Nat.reduceAdd, Nat.reduceMul]; (repeat' (first | with_reducible rfl | exact E.RK.mk (by kernel_rfl) | apply And.intro | (push_cast; with_reducible rfl) | (refine E.int_c ?_; omega) | (simp only [go_sem, reduceIte, Nat.reduceEqDiff, reduceCtorEq, Nat.reduceAdd, Nat.reduceMul]; done) | (simp; done) | fail)); done))
    | apply And.intro
    | omega
    | (dsimp only; omega)
    | (push_cast; with_reducible rfl)
    | refine congrArg (List.map _) ?_
    | (rw [E.drop_end (l := l) (i := i) (by omega)] at hR; rw [← hR]; simp [msGo]; done)
    | (rw [drop_at (l := l) (i := i) (by omega)] at hR; simpa [msGo, *] using hR; done)
    | (simp_all [masterSide]; done)
    | (simp [masterSide]; done)
    | fail)

theorem masterSide_impl (l : List Int) (hl : l.length ≤ 1048576) : Fn Go.Proofs.Try.prog 18 [.c (.s false 1 ((l).map eInt))] [.c .d] [.c (.s true 1 ((masterSide l).map eInt))] := by
  refine E.Fn.ev (n := 26) noMd false mix Go.Proofs.Try.func18 rfl (by simp [Go.Proofs.Try.f18]) Go.Proofs.Try.ntmps18 (by simp) (by kernel_rfl) (rs := [.tmp 2]) (tys := [24]) rfl rfl rfl (by simp [resOK, A.ts, ownE, ownT, own_eInt]) ?_
  simp only [go_sem, reduceIte, Nat.reduceEqDiff, reduceCtorEq, Nat.reduceAdd, Nat.reduceMul]
  repeat' (first
    | with_reducible rfl
    | exact trivial
    | simp only [List.cons.injEq, A.c.injEq, A.a.injEq, T.v.injEq, T.s.injEq, Value.bool.injEq, Value.int.injEq, and_true, true_and]
    | (refine E.CALL.use (areSides_impl _ hl) ?_; simp only [go_sem, reduceIte, Nat.reduceEqDiff, reduceCtorEq, Nat.reduceAdd, Nat.reduceMul])
    | (refine E.GB.use (fun h => ?_) (fun h => ?_) <;> (simp only [go_sem, reduceIte, Nat.reduceEqDiff, reduceCtorEq, Nat.reduceAdd, Nat.reduceMul, h]) <;> (try simp only [decide_eq_true_eq, decide_eq_false_iff_not, Bool.not_eq_true', Bool.not_eq_false', Bool.not_eq_true, Bool.not_eq_false, beq_iff_eq, beq_eq_false_iff_ne, bne_iff_ne, bne_eq_false_iff_eq, Int.not_lt, Int.not_le, ne_eq] at h))
    | exact E.INDEP.mk (by kernel_rfl)
    | (refine E.NQ.use (fun b hb => ?_); simp only [go_sem, reduceIte, Nat.reduceEqDiff, reduceCtorEq, Nat.reduceAdd, Nat.reduceMul])
    | exact E.RK.mk (by kernel_rfl)
    | (refine E.IX_map ?_ (fun hx => ?_); rotate_left; simp only [go_sem, reduceIte, Nat.reduceEqDiff, reduceCtorEq, Nat.reduceAdd, Nat.reduceMul])
    | (refine E.loopR (ι := Nat × List Int) 5 rfl (fun p => [(.s 13, .v (.c (.v (vi p.1)))), (.s 3, .v (.c (.r (6, 0) 0 [] 0 (p.2).length))), (.k (6, 0), .e ⟨0, 1, (p.2).map eInt⟩)]) [2, 11, 12, 25] [(6, 0)] [] (fun p => l.length - p.1) (fun p => p.1 ≤ l.length ∧ p.2.length ≤ p.1 ∧ p.2 ++ (if areSides l then msGo p.1 (l.drop p.1) else []) = masterSide l) mix (by kernel_rfl) (0, []) ?_ ?_ (fun ⟨i, out⟩ ⟨hi, ho, hR⟩ => ?_); all_goals (try simp only [go_sem, reduceIte, Nat.reduceEqDiff, reduceCtorEq, Nat.reduceAdd, Nat.reduceMul]); all_goals (try dsimp only at hi ho hR))
    | (refine E.NEXT.use [((6, 0), (23, 0))] (i + 1, out ++ [(i : Int)]) ?_ ?_ ?_; rotate_left 2; focus (simp only [go_sem, reduceIte, Nat.reduceEqDiff, reduceCtorEq, Nat.reduceAdd, Nat.reduceMul]; (repeat' (first | with_reducible rfl | exact E.RK.mk (by kernel_rfl) | apply And.intro | (push_cast; with_reducible rfl) | (refine E.int_c ?_; omega) | (simp only [go_sem, reduceIte, Nat.reduceEqDiff, reduceCtorEq, Nat.reduceAdd, Nat.reduceMul]; done) | (simp; done) | fail)); done))
    | (refine E.NEXT.use [] (i + 1, out) ?_ ?_ ?_; rotate_left 2; focus (simp only [go_sem, reduceIte, Nat.reduceEqDiff, reduceCtorEq, Nat.reduceAdd, Nat.reduceMul]; (repeat' (first | with_reducible rfl | exact E.RK.mk (by kernel_rfl) | apply And.intro | (push_cast; with_reducible rfl) | (refine E.int_c ?_; omega) | (simp only [go_sem, reduceIte, Nat.reduceEqDiff, reduceCtorEq, Nat.reduceAdd, Nat.reduceMul]; done) | (simp; done) | fail)); done))
    | apply And.intro
    | omega
    | (dsimp only; omega)
    | (push_cast; with_reducible rfl)
    | refine congrArg (List.map _) ?_
    | (rw [E.drop_end (l := l) (i := i) (by omega)] at hR; rw [← hR]; simp [msGo]; done)
    | (rw [drop_at (l := l) (i := i) (by omega)] at hR; simpa [msGo, *] using hR; done)
    | (simp_all [masterSide]; done)
    | (simp [masterSide]; done)
    | fail)

theorem mark_c (l : List Int) (k : Int) (hl : l.length ≤ 1048576) (hk : 0 ≤ k) (hk2 : k ≤ 1152921504606846976) : Fn Go.Proofs.Try.prog 19 [.c (.s true 1 ((l).map eInt)), .c (.v (vi (k)))] [.c (.s true 1 ((markI l k).map eInt)), .c .d] [.c (.v (vi (k + l.length)))] := by
  refine E.Fn.ev (n := 19) noMd false mix Go.Proofs.Try.func19 rfl (by simp [Go.Proofs.Try.f19]) Go.Proofs.Try.ntmps19 (by simp) (by kernel_rfl) (rs := [.tmp 4]) (tys := [3]) rfl rfl (by simp [finOK, A.ts, ownE, ownT, own_eInt]) rfl ?_
  simp only [go_sem, reduceIte, Nat.reduceEqDiff, reduceCtorEq, Nat.reduceAdd, Nat.reduceMul]
  repeat' (first
    | with_reducible rfl
    | exact trivial
    | simp only [List.cons.injEq, A.c.injEq, A.a.injEq, T.v.injEq, T.s.injEq, Value.bool.injEq, Value.int.injEq, and_true, true_and]
    | (refine E.GB.use (fun h => ?_) (fun h => ?_) <;> (simp only [go_sem, reduceIte, Nat.reduceEqDiff, reduceCtorEq, Nat.reduceAdd, Nat.reduceMul, h]) <;> (try simp only [decide_eq_true_eq, decide_eq_false_iff_not, Bool.not_eq_true', Bool.not_eq_false', Bool.not_eq_true, Bool.not_eq_false, beq_iff_eq, beq_eq_false_iff_ne, bne_iff_ne, bne_eq_false_iff_eq, Int.not_lt, Int.not_le, ne_eq] at h))
    | exact E.INDEP.mk (by kernel_rfl)
    | (refine E.NQ.use (fun b hb => ?_); simp only [go_sem, reduceIte, Nat.reduceEqDiff, reduceCtorEq, Nat.reduceAdd, Nat.reduceMul])
    | exact E.RK.mk (by kernel_rfl)
    | (refine E.IX_map ?_ (fun hx => ?_); rotate_left; simp only [go_sem, reduceIte, Nat.reduceEqDiff, reduceCtorEq, Nat.reduceAdd, Nat.reduceMul])
    | (refine E.loopR (ι := Nat) 2 rfl (fun i => [(.s 5, .v (.c (.v (vi i)))), (.s 1, .v (.c (.v (vi (k + (i : Int)))))), (.s 0, .v (.c (.r (0, 0) 0 [] 0 l.length))), (.k (0, 0), .e ⟨0, 1, (E.ow (fun (i : Nat) => k + (i : Int)) l i).map eInt⟩)]) [0, 4, 18] [(0, 0)] [] (fun i => l.length - i) (fun i => i ≤ l.length ∧ (E.ow (fun (i : Nat) => k + (i : Int)) l i).length = l.length) mix (by kernel_rfl) 0 ?_ ?_ (fun i ⟨hi, hw⟩ => ?_); all_goals (try simp only [go_sem, reduceIte, Nat.reduceEqDiff, reduceCtorEq, Nat.reduceAdd, Nat.reduceMul]); all_goals (try dsimp only at hi hw))
    | (refine E.NEXT.use [] (i + 1) ?_ ?_ ?_; rotate_left 2; focus (simp only [go_sem, reduceIte, Nat.reduceEqDiff, reduceCtorEq, Nat.reduceAdd, Nat.reduceMul]; (repeat' (first | with_reducible rfl | exact E.RK.mk (by kernel_rfl) | apply And.intro | (push_cast; with_reducible rfl) | (refine E.int_c ?_; omega) | (simp only [go_sem, reduceIte, Nat.reduceEqDiff, reduceCtorEq, Nat.reduceAdd, Nat.reduceMul]; done) | (simp; done) | (rw [← E.ow_set, List.map_set] <;> first | rfl | omega; done) | fail)); done))
    | apply And.intro
    | omega
    | (dsimp only; omega)
    | (push_cast; with_reducible rfl)
    | refine congrArg (List.map _) ?_
    | (rw [E.ow_len (by omega)]; done)
    | (simp [E.ow_zero]; done)
    | (have e : i = l.length := (by omega); subst e; rw [E.ow_full]; rfl; done)
    | fail)

theorem held_c (l : List Int) (k : Int) (hl : l.length ≤ 1048576) (hk : 0 ≤ k) (hk2 : k ≤ 1152921504606846976) : Fn Go.Proofs.Try.prog 20 [.c (.s false 1 ((l).map eInt)), .c (.v (vi (k)))] [.c .d, .c .d] [.c (.v (vi (heldI l k)))] := by
  refine E.Fn.ev (n := 21) noMd false mix Go.Proofs.Try.func20 rfl (by simp [Go.Proofs.Try.f20]) Go.Proofs.Try.ntmps20 (by simp) (by kernel_rfl) (rs := [.tmp 4]) (tys := [3]) rfl rfl rfl rfl ?_
  simp only [go_sem, reduceIte, Nat.reduceEqDiff, reduceCtorEq, Nat.reduceAdd, Nat.reduceMul]
  repeat' (first
    | with_reducible rfl
    | exact trivial
    | simp only [List.cons.injEq, A.c.injEq, A.a.injEq, T.v.injEq, T.s.injEq, Value.bool.injEq, Value.int.injEq, and_true, true_and]
    | (refine E.GB.use (fun h => ?_) (fun h => ?_) <;> (simp only [go_sem, reduceIte, Nat.reduceEqDiff, reduceCtorEq, Nat.reduceAdd, Nat.reduceMul, h]) <;> (try simp only [decide_eq_true_eq, decide_eq_false_iff_not, Bool.not_eq_true', Bool.not_eq_false', Bool.not_eq_true, Bool.not_eq_false, beq_iff_eq, beq_eq_false_iff_ne, bne_iff_ne, bne_eq_false_iff_eq, Int.not_lt, Int.not_le, ne_eq] at h))
    | exact E.INDEP.mk (by kernel_rfl)
    | (refine E.NQ.use (fun b hb => ?_); simp only [go_sem, reduceIte, Nat.reduceEqDiff, reduceCtorEq, Nat.reduceAdd, Nat.reduceMul])
    | exact E.RK.mk (by kernel_rfl)
    | (refine E.IX_map ?_ (fun hx => ?_); rotate_left; simp only [go_sem, reduceIte, Nat.reduceEqDiff, reduceCtorEq, Nat.reduceAdd, Nat.reduceMul])
    | (refine E.loopR (ι := Nat) 2 rfl (fun i => [(.s 5, .v (.c (.v (vi i)))), (.s 1, .v (.c (.v (vi (k + (i : Int))))))]) [0, 20] [] [] (fun i => l.length - i) (fun i => i ≤ l.length ∧ heldI (l.drop i) (k + i) = heldI l k) mix (by kernel_rfl) 0 ?_ ?_ (fun i ⟨hi, hR⟩ => ?_); all_goals (try simp only [go_sem, reduceIte, Nat.reduceEqDiff, reduceCtorEq, Nat.reduceAdd, Nat.reduceMul]); all_goals (try dsimp only at hi hR))
    | (refine E.NEXT.use [] (i + 1) ?_ ?_ ?_; rotate_left 2; focus (simp only [go_sem, reduceIte, Nat.reduceEqDiff, reduceCtorEq, Nat.reduceAdd, Nat.reduceMul]; (repeat' (first | with_reducible rfl | exact E.RK.mk (by kernel_rfl) | apply And.intro | (push_cast; with_reducible rfl) | (refine E.int_c ?_; omega) | (simp only [go_sem, reduceIte, Nat.reduceEqDiff, reduceCtorEq, Nat.reduceAdd, Nat.reduceMul]; done) | (simp; done) | fail)); done))
    | apply And.intro
    | omega
    | (dsimp only; omega)
    | (push_cast; with_reducible rfl)
    | refine congrArg (List.map _) ?_
    | (rw [drop_at (l := l) (i := i) (by omega)] at hR; simp only [heldI, h, if_true, if_false] at hR; rw [← hR]; congr 1; omega; done)
    | (rw [drop_at (l := l) (i := i) (by omega)] at hR; simp only [heldI, h, if_true, if_false] at hR; rw [← hR]; done)
    | (rw [E.drop_end (l := l) (i := i) (by omega)] at hR; simp only [heldI] at hR; rw [← hR]; done)
    | (simp; done)
    | fail)

theorem toIntS_c (l : List Int) (hl : l.length ≤ 1048576) : Fn Go.Proofs.Try.prog 12 [.c (.s false 1 ((l).map eInt))] [.c .d] [.c (.s true 1 ((l).map eInt))] := by
  refine E.Fn.ev (n := 22) noMd false mix Go.Proofs.Try.func12 rfl (by simp [Go.Proofs.Try.f12]) Go.Proofs.Try.ntmps12 (by simp) (by kernel_rfl) (rs := [.tmp 2]) (tys := [24]) rfl rfl rfl (by simp [resOK, A.ts, ownE, ownT, own_eInt]) ?_
  simp only [go_sem, reduceIte, Nat.reduceEqDiff, reduceCtorEq, Nat.reduceAdd, Nat.reduceMul]
  repeat' (first
    | with_reducible rfl
    | exact trivial
    | simp only [List.cons.injEq, A.c.injEq, A.a.injEq, T.v.injEq, T.s.injEq, Value.bool.injEq, Value.int.injEq, and_true, true_and]
    | (refine E.GB.use (fun h => ?_) (fun h => ?_) <;> (simp only [go_sem, reduceIte, Nat.reduceEqDiff, reduceCtorEq, Nat.reduceAdd, Nat.reduceMul, h]) <;> (try simp only [decide_eq_true_eq, decide_eq_false_iff_not, Bool.not_eq_true', Bool.not_eq_false', Bool.not_eq_true, Bool.not_eq_false, beq_iff_eq, beq_eq_false_iff_ne, bne_iff_ne, bne_eq_false_iff_eq, Int.not_lt, Int.not_le, ne_eq] at h))
    | exact E.INDEP.mk (by kernel_rfl)
    | (refine E.NQ.use (fun b hb => ?_); simp only [go_sem, reduceIte, Nat.reduceEqDiff, reduceCtorEq, Nat.reduceAdd, Nat.reduceMul])
    | exact E.RK.mk (by kernel_rfl)
    | (refine E.IX_map ?_ (fun hx => ?_); rotate_left; simp only [go_sem, reduceIte, Nat.reduceEqDiff, reduceCtorEq, Nat.reduceAdd, Nat.reduceMul])
    | (refine E.loopR (ι := Nat) 3 rfl (fun i => [(.s 4, .v (.c (.v (vi i)))), (.s 3, .v (.c (.r (7, 0) 0 [] 0 l.length))), (.k (7, 0), .e ⟨0, 1, (E.cp l i 0).map eInt⟩)]) [0, 2, 3, 21] [(7, 0)] [] (fun i => l.length - i) (fun i => i ≤ l.length ∧ (E.cp l i 0).length = l.length) mix (by kernel_rfl) 0 ?_ ?_ (fun i ⟨hi, hw⟩ => ?_); all_goals (try simp only [go_sem, reduceIte, Nat.reduceEqDiff, reduceCtorEq, Nat.reduceAdd, Nat.reduceMul]); all_goals (try dsimp only at hi hw))
    | (refine E.NEXT.use [] (i + 1) ?_ ?_ ?_; rotate_left 2; focus (simp only [go_sem, reduceIte, Nat.reduceEqDiff, reduceCtorEq, Nat.reduceAdd, Nat.reduceMul]; (repeat' (first | with_reducible rfl | exact E.RK.mk (by kernel_rfl) | apply And.intro | (push_cast; with_reducible rfl) | (refine E.int_c ?_; omega) | (simp only [go_sem, reduceIte, Nat.reduceEqDiff, reduceCtorEq, Nat.reduceAdd, Nat.reduceMul]; done) | (simp; done) | (rw [← E.cp_set, List.map_set] <;> first | rfl | omega; done) | fail)); done))
    | apply And.intro
    | omega
    | (dsimp only; omega)
    | (push_cast; with_reducible rfl)
    | refine congrArg (List.map _) ?_
    | (rw [E.cp_len (by omega)]; done)
    | (simp [E.cp]; done)
    | (simp [E.cp_zero, eInt_eq]; done)
    | (have e : i = l.length := (by omega); subst e; simp [E.cp_full]; done)
    | fail)

theorem eqIntS_c (a b : List Int) (ha : a.length ≤ 1048576) (hb : b.length ≤ 1048576) : Fn Go.Proofs.Try.prog 14 [.c (.s false 1 ((a).map eInt)), .c (.s false 1 ((b).map eInt))] [.c .d, .c .d] [.c (.v (.bool (a == b)))] := by
  refine E.Fn.ev (n := 26) noMd false mix Go.Proofs.Try.func14 rfl (by simp [Go.Proofs.Try.f14]) Go.Proofs.Try.ntmps14 (by simp) (by kernel_rfl) (rs := [.tmp 4]) (tys := [4]) rfl rfl rfl rfl ?_
  simp only [go_sem, reduceIte, Nat.reduceEqDiff, reduceCtorEq, Nat.reduceAdd, Nat.reduceMul]
  repeat' (first
    | with_reducible rfl
    | exact trivial
    | simp only [List.cons.injEq, A.c.injEq, A.a.injEq, T.v.injEq, T.s.injEq, Value.bool.injEq, Value.int.injEq, and_true, true_and]
    | (refine E.GB.use (fun h => ?_) (fun h => ?_) <;> (simp only [go_sem, reduceIte, Nat.reduceEqDiff, reduceCtorEq, Nat.reduceAdd, Nat.reduceMul, h]) <;> (try simp only [decide_eq_true_eq, decide_eq_false_iff_not, Bool.not_eq_true', Bool.not_eq_false', Bool.not_eq_true, Bool.not_eq_false, beq_iff_eq, beq_eq_false_iff_ne, bne_iff_ne, bne_eq_false_iff_eq, Int.not_lt, Int.not_le, ne_eq] at h))
    | exact E.INDEP.mk (by kernel_rfl)
    | (refine E.NQ.use (fun b hb => ?_); simp only [go_sem, reduceIte, Nat.reduceEqDiff, reduceCtorEq, Nat.reduceAdd, Nat.reduceMul])
    | exact E.RK.mk (by kernel_rfl)
    | (refine E.IX_map ?_ (fun hx => ?_); rotate_left; simp only [go_sem, reduceIte, Nat.reduceEqDiff, reduceCtorEq, Nat.reduceAdd, Nat.reduceMul])
    | (refine E.loopR (ι := Nat) 4 rfl (fun i => [(.s 5, .v (.c (.v (vi i))))]) [0, 1] [] [] (fun i => (a).length - i) (fun i => i ≤ (a).length ∧ a.length = b.length ∧ (a.drop i == b.drop i) = (a == b)) mix (by kernel_rfl) 0 ?_ ?_ (fun i ⟨hi, hn, hR⟩ => ?_); all_goals (try simp only [go_sem, reduceIte, Nat.reduceEqDiff, reduceCtorEq, Nat.reduceAdd, Nat.reduceMul]); all_goals (try dsimp only at hi hn hR))
    | (refine E.NEXT.use [] (i + 1) ?_ ?_ ?_; rotate_left 2; focus (simp only [go_sem, reduceIte, Nat.reduceEqDiff, reduceCtorEq, Nat.reduceAdd, Nat.reduceMul]; (repeat' (first | with_reducible rfl | exact E.RK.mk (by kernel_rfl) | apply And.intro | (push_cast; with_reducible rfl) | (refine E.int_c ?_; omega) | (simp only [go_sem, reduceIte, Nat.reduceEqDiff, reduceCtorEq, Nat.reduceAdd, Nat.reduceMul]; done) | (simp; done) | fail)); done))
    | apply And.intro
    | omega
    | (dsimp only; omega)
    | (push_cast; with_reducible rfl)
    | refine congrArg (List.map _) ?_
    | (rw [drop_at (l := a) (i := i) (by omega)] at hR; rw [drop_at (l := b) (i := i) (by omega)] at hR; simp_all; done)
    | (rw [E.drop_end (l := a) (i := i) (by omega)] at hR; rw [E.drop_end (l := b) (i := i) (by omega)] at hR; simp_all; done)
    | (simp; done)
    | (omega; done)
    | (symm; simp only [beq_eq_false_iff_ne, ne_eq]; intro e; subst e; omega; done)
    | fail)

theorem clone_c (l : List Int) (hl : l.length ≤ 1048576) : Fn Go.Proofs.Try.prog 29 [.c (.s false 1 ((l).map eInt))] [.c .d] [.c (.s true 1 ((l).map eInt))] := by
  refine E.Fn.ev (n := 8) noMd false mix Go.Proofs.Try.func29 rfl (by simp [Go.Proofs.Try.f29]) Go.Proofs.Try.ntmps29 (by simp) (by kernel_rfl) (rs := [.tmp 2]) (tys := [24]) rfl rfl rfl (by simp [resOK, A.ts, ownE, ownT, own_eInt]) ?_
  simp only [go_sem, reduceIte, Nat.reduceEqDiff, reduceCtorEq, Nat.reduceAdd, Nat.reduceMul]
  repeat' (first
    | with_reducible rfl
    | exact trivial
    | simp only [List.cons.injEq, A.c.injEq, A.a.injEq, T.v.injEq, T.s.injEq, Value.bool.injEq, Value.int.injEq, and_true, true_and]
    | (refine E.GB.use (fun h => ?_) (fun h => ?_) <;> (simp only [go_sem, reduceIte, Nat.reduceEqDiff, reduceCtorEq, Nat.reduceAdd, Nat.reduceMul, h]) <;> (try simp only [decide_eq_true_eq, decide_eq_false_iff_not, Bool.not_eq_true', Bool.not_eq_false', Bool.not_eq_true, Bool.not_eq_false, beq_iff_eq, beq_eq_false_iff_ne, bne_iff_ne, bne_eq_false_iff_eq, Int.not_lt, Int.not_le, ne_eq] at h))
    | exact E.INDEP.mk (by kernel_rfl)
    | (refine E.NQ.use (fun b hb => ?_); simp only [go_sem, reduceIte, Nat.reduceEqDiff, reduceCtorEq, Nat.reduceAdd, Nat.reduceMul])
    | exact E.RK.mk (by kernel_rfl)
    | (refine E.IX_map ?_ (fun hx => ?_); rotate_left; simp only [go_sem, reduceIte, Nat.reduceEqDiff, reduceCtorEq, Nat.reduceAdd, Nat.reduceMul])
    | apply And.intro
    | omega
    | (dsimp only; omega)
    | (push_cast; with_reducible rfl)
    | refine congrArg (List.map _) ?_
    | (exact (hb h).symm; done)
    | (simp; done)
    | fail)

end Go.Abs

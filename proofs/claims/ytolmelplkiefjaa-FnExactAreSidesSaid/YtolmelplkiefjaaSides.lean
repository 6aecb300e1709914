/- The contracts of the functions that laws.FnExactAreSides reaches, over the abstract machine, and of that law itself: it returns true for every []int. No condition. -/
import Derived.Test.YtolmelplkiefjaaMachFour
import Derived.KernelRfl
import Derived.Test.YtolmelplkiefjaaProg
set_option linter.unusedVariables false
set_option linter.unusedSimpArgs false
namespace Go.Abs
open Go
abbrev vi (x : Int) : Value := .int .i64 x
def ints (l : List Int) : List (List T) := l.map fun x => [.v (vi x)]
theorem ints_length (l : List Int) : (ints l).length = l.length := by simp [ints]
theorem ints_get (l : List Int) (i : Nat) : (ints l)[i]? = (l[i]?).map fun x => [.v (vi x)] := by simp [ints]
def noMd : Nat → Nat → Bool := fun _ _ => false
theorem ownEs_ints (l : List Int) : ownEs (ints l) = true := by
  induction l with
  | nil => rfl
  | cons a l ih => simpa [ints, ownEs, ownE, ownT] using ih
theorem exitOK_of {P : Program} {fn : Func} {al fin res : List A} {st : St} {rs : List ResultVar} {tys : List TypeId} (h1 : fn.results.toList = rs) (h2 : fn.resultTypes.toList = tys)
    (h : (resultsM P rs fun vs => outM P [] vs tys fun ov rs => .req (rs = res) (.ret ov)).wp P st fun ov => fin = finAs (app ov st) 0 al) : ExitOK P fn al fin res st := by
  unfold ExitOK; rw [h1, h2]; exact h
theorem el24 : elemOf Go.Proofs.Try.prog 24 = some 3 := by kernel_rfl
theorem sz3 : szOf Go.Proofs.Try.prog 3 = some 1 := by kernel_rfl
theorem by3 : bytesOf Go.Proofs.Try.prog 3 = some 8 := by kernel_rfl
theorem ag3 : aggOf Go.Proofs.Try.prog 3 = some false := by kernel_rfl
theorem ze3 : zeroOf Go.Proofs.Try.prog 3 = some [.v (vi 0)] := by kernel_rfl
theorem ki3 : kinds Go.Proofs.Try.prog 12 3 = some [none] := by kernel_rfl
theorem ki4 : kinds Go.Proofs.Try.prog 12 4 = some [none] := by kernel_rfl
theorem ki24 : kinds Go.Proofs.Try.prog 12 24 = some [some 1] := by kernel_rfl
theorem mix : Go.Proofs.Try.prog.follows .mixedOrders = true := by kernel_rfl
attribute [local go_sem] opsM operM opM getO put constV M.wp List.range List.range.loop List.getElem?_toArray List.getElem?_cons_zero List.getElem?_cons_succ List.size_toArray List.length_cons List.length_nil ofL_s ofL_sk ofL_ks ofL_k app_ofL List.cons_append List.nil_append lenV intV Go.Abs.fresh el24 sz3 by3 ag3 ze3 ki3 ki4 ki24 ints_length boolV binM intBin resultsM resultM outM outM1 convs conv getE getR ovl finAs finA finT List.append_nil Option.bind_some Option.bind rowAt ofL_nil noMd


theorem f25_res : Go.Proofs.Try.f25.results.toList = [.tmp 6] := rfl
theorem f25_tys : Go.Proofs.Try.f25.resultTypes.toList = [4] := rfl
theorem in_spec (x lo hi : Int) : Fn Go.Proofs.Try.prog 25 [.c (.v (vi x)), .c (.v (vi lo)), .c (.v (vi hi))] [.c .d, .c .d, .c .d] [.c (.v (.bool (decide (lo ≤ x) && decide (x ≤ hi))))] := by
  refine Fn.of Go.Proofs.Try.func25 rfl (by simp [Go.Proofs.Try.f25]) (by rw [Go.Proofs.Try.ntmps25]; simp) rfl ?_ ?_
  · rfl
  rw [entrySt_eq, Go.Proofs.Try.ntmps25]
  simp only [entryL, entryKs, A.ts, entryV, entryC, entryCap, List.map_cons, List.map_nil, List.nil_append, List.append_nil, List.length_cons, List.length_nil]
  refine AW.textK (md := noMd) (DstOK.of rfl) ?_
  intro K hK
  simp only [go_sem, reduceIte, Nat.reduceEqDiff, reduceCtorEq, Nat.reduceMul, Nat.reduceAdd, Bool.false_eq_true]
  repeat' apply And.intro
  all_goals first | (apply hK; clear hK K) | exact trivial | rfl | omega | exact .inl trivial | (simp; done)
  by_cases h1 : lo ≤ x
  · skip
    refine AW.textK (md := noMd) (DstOK.of rfl) ?_
    intro K hK
    simp only [go_sem, reduceIte, Nat.reduceEqDiff, reduceCtorEq, Nat.reduceMul, Nat.reduceAdd, Bool.false_eq_true, h1, decide_true, decide_false]
    repeat' apply And.intro
    all_goals first | (apply hK; clear hK K) | exact trivial | rfl | omega | exact .inl trivial | (simp; done)
    refine AW.ret ⟨.inr rfl, ?_⟩
    refine exitOK_of f25_res f25_tys ?_
    simp only [go_sem, reduceIte, Nat.reduceEqDiff, reduceCtorEq, Nat.reduceMul, Nat.reduceAdd, Bool.false_eq_true, h1, decide_true, decide_false]
    repeat' apply And.intro
    all_goals first | rfl | exact trivial | (simp; done) | (simp [*]; done)
  · skip
    refine AW.textK (md := noMd) (DstOK.of rfl) ?_
    intro K hK
    simp only [go_sem, reduceIte, Nat.reduceEqDiff, reduceCtorEq, Nat.reduceMul, Nat.reduceAdd, Bool.false_eq_true, h1, decide_true, decide_false]
    repeat' apply And.intro
    all_goals first | (apply hK; clear hK K) | exact trivial | rfl | omega | exact .inl trivial | (simp; done)
    refine AW.ret ⟨.inr rfl, ?_⟩
    refine exitOK_of f25_res f25_tys ?_
    simp only [go_sem, reduceIte, Nat.reduceEqDiff, reduceCtorEq, Nat.reduceMul, Nat.reduceAdd, Bool.false_eq_true, h1, decide_true, decide_false]
    repeat' apply And.intro
    all_goals first | rfl | exact trivial | (simp; done) | (simp [*]; done)

theorem f26_res : Go.Proofs.Try.f26.results.toList = [.tmp 6] := rfl
theorem f26_tys : Go.Proofs.Try.f26.resultTypes.toList = [4] := rfl
theorem in_impl (x lo hi : Int) : Fn Go.Proofs.Try.prog 26 [.c (.v (vi x)), .c (.v (vi lo)), .c (.v (vi hi))] [.c .d, .c .d, .c .d] [.c (.v (.bool (decide (lo ≤ x) && decide (x ≤ hi))))] := by
  refine Fn.of Go.Proofs.Try.func26 rfl (by simp [Go.Proofs.Try.f26]) (by rw [Go.Proofs.Try.ntmps26]; simp) rfl ?_ ?_
  · rfl
  rw [entrySt_eq, Go.Proofs.Try.ntmps26]
  simp only [entryL, entryKs, A.ts, entryV, entryC, entryCap, List.map_cons, List.map_nil, List.nil_append, List.append_nil, List.length_cons, List.length_nil]
  refine AW.textK (md := noMd) (DstOK.of rfl) ?_
  intro K hK
  simp only [go_sem, reduceIte, Nat.reduceEqDiff, reduceCtorEq, Nat.reduceMul, Nat.reduceAdd, Bool.false_eq_true]
  repeat' apply And.intro
  all_goals first | (apply hK; clear hK K) | exact trivial | rfl | omega | exact .inl trivial | (simp; done)
  by_cases h1 : lo ≤ x
  · skip
    refine AW.textK (md := noMd) (DstOK.of rfl) ?_
    intro K hK
    simp only [go_sem, reduceIte, Nat.reduceEqDiff, reduceCtorEq, Nat.reduceMul, Nat.reduceAdd, Bool.false_eq_true, h1, decide_true, decide_false]
    repeat' apply And.intro
    all_goals first | (apply hK; clear hK K) | exact trivial | rfl | omega | exact .inl trivial | (simp; done)
    refine AW.ret ⟨.inr rfl, ?_⟩
    refine exitOK_of f26_res f26_tys ?_
    simp only [go_sem, reduceIte, Nat.reduceEqDiff, reduceCtorEq, Nat.reduceMul, Nat.reduceAdd, Bool.false_eq_true, h1, decide_true, decide_false]
    repeat' apply And.intro
    all_goals first | rfl | exact trivial | (simp; done) | (simp [*]; done)
  · skip
    refine AW.textK (md := noMd) (DstOK.of rfl) ?_
    intro K hK
    simp only [go_sem, reduceIte, Nat.reduceEqDiff, reduceCtorEq, Nat.reduceMul, Nat.reduceAdd, Bool.false_eq_true, h1, decide_true, decide_false]
    repeat' apply And.intro
    all_goals first | (apply hK; clear hK K) | exact trivial | rfl | omega | exact .inl trivial | (simp; done)
    refine AW.ret ⟨.inr rfl, ?_⟩
    refine exitOK_of f26_res f26_tys ?_
    simp only [go_sem, reduceIte, Nat.reduceEqDiff, reduceCtorEq, Nat.reduceMul, Nat.reduceAdd, Bool.false_eq_true, h1, decide_true, decide_false]
    repeat' apply And.intro
    all_goals first | rfl | exact trivial | (simp; done) | (simp [*]; done)

theorem f28_res : Go.Proofs.Try.f28.results.toList = [.tmp 2] := rfl
theorem f28_tys : Go.Proofs.Try.f28.resultTypes.toList = [4] := rfl
theorem clo28 (x : Int) : Fn Go.Proofs.Try.prog 28 [.c (.v (vi x))] [.c .d] [.c (.v (.bool (!(decide (0 ≤ x) && decide (x ≤ 3)))))] := by
  refine Fn.of Go.Proofs.Try.func28 rfl (by simp [Go.Proofs.Try.f28]) (by rw [Go.Proofs.Try.ntmps28]; simp) rfl ?_ ?_
  · rfl
  rw [entrySt_eq, Go.Proofs.Try.ntmps28]
  simp only [entryL, entryKs, A.ts, entryV, entryC, entryCap, List.map_cons, List.map_nil, List.nil_append, List.append_nil, List.length_cons, List.length_nil]
  refine AW.textK (md := noMd) (DstOK.of rfl) ?_
  intro K hK
  simp only [go_sem, reduceIte, Nat.reduceEqDiff, reduceCtorEq, Nat.reduceMul, Nat.reduceAdd, Bool.false_eq_true, cellA, argsA, argA, capsA, callM, callable, backs, resVs, resV, resC, tupV, getOs]
  repeat' apply And.intro
  all_goals first | (apply hK; clear hK K) | exact trivial | rfl | omega | exact .inl trivial | (simp; done)
  refine AW.textK (md := noMd) (DstOK.of rfl) ?_
  intro K hK
  simp only [go_sem, reduceIte, Nat.reduceEqDiff, reduceCtorEq, Nat.reduceMul, Nat.reduceAdd, Bool.false_eq_true, cellA, argsA, argA, capsA, callM, callable, backs, resVs, resV, resC, tupV, getOs]
  refine ⟨trivial, _, _, in_impl x 0 3, ?_⟩
  simp only [go_sem, backs, resVs, resV, resC, tupV, reduceIte, Nat.reduceEqDiff, reduceCtorEq]
  apply hK
  clear hK K
  refine AW.ret ⟨.inr rfl, ?_⟩
  refine exitOK_of f28_res f28_tys ?_
  simp only [go_sem, reduceIte, Nat.reduceEqDiff, reduceCtorEq, Nat.reduceMul, Nat.reduceAdd, Bool.false_eq_true, cellA, argsA, argA, capsA, callM, callable, backs, resVs, resV, resC, tupV, getOs]
  repeat' apply And.intro
  all_goals first | rfl | exact trivial | (simp; done) | (simp [*]; done)


theorem ext_of {a b : List Int} (hl : a.length = b.length) (h : ∀ (j : Nat) (x y : Int), a[j]? = some x → b[j]? = some y → x = y) : a = b := by
  apply List.ext_getElem hl
  intro i h1 h2
  exact h i _ _ (List.getElem?_eq_getElem h1) (List.getElem?_eq_getElem h2)

theorem f14_res : Go.Proofs.Try.f14.results.toList = [.tmp 4] := rfl
theorem f14_tys : Go.Proofs.Try.f14.resultTypes.toList = [4] := rfl
theorem eqIntS_c (a b : List Int) (ha : a.length ≤ 1048576) (hb : b.length ≤ 1048576) : Fn Go.Proofs.Try.prog 14 [.c (.s false 1 (ints a)), .c (.s false 1 (ints b))] [.c .d, .c .d] [.c (.v (.bool (decide (a = b))))] := by
  refine Fn.of Go.Proofs.Try.func14 rfl (by simp [Go.Proofs.Try.f14]) (by rw [Go.Proofs.Try.ntmps14]; simp) rfl ?_ ?_
  · rfl
  rw [entrySt_eq, Go.Proofs.Try.ntmps14]
  simp only [entryL, entryKs, A.ts, entryV, entryC, entryCap, List.map_cons, List.map_nil, List.nil_append, List.append_nil, List.length_cons, List.length_nil]
  refine AW.textK (md := noMd) (DstOK.of rfl) ?_
  intro K hK
  simp only [go_sem, reduceIte, Nat.reduceEqDiff, reduceCtorEq, Nat.reduceMul, Nat.reduceAdd, Bool.false_eq_true]
  repeat' apply And.intro
  all_goals first | (apply hK; clear hK K) | exact trivial | rfl | omega | exact .inl trivial | (simp; done)
  refine AW.seq ?_
  refine AW.textK (md := noMd) (DstOK.of rfl) ?_
  intro K hK
  simp only [go_sem, reduceIte, Nat.reduceEqDiff, reduceCtorEq, Nat.reduceMul, Nat.reduceAdd, Bool.false_eq_true]
  repeat' apply And.intro
  all_goals first | (apply hK; clear hK K) | exact trivial | rfl | omega | exact .inl trivial | (simp; done)
  refine AW.cond (t := ((a.length : Int) != (b.length : Int))) (by simp only [condV, go_sem, reduceIte, Nat.reduceEqDiff, reduceCtorEq, Nat.reduceMul, Nat.reduceAdd, Bool.false_eq_true]) ?_
  cases hb0 : ((a.length : Int) != (b.length : Int))
  · show AW _ _ _ _ _ _
    have hl : a.length = b.length := by simp at hb0; omega
    refine AW.skip ?_
    show AW _ _ _ _ _ _
    refine AW.seq ?_
    refine AW.textK (md := noMd) (DstOK.of rfl) ?_
    intro K hK
    simp only [go_sem, reduceIte, Nat.reduceEqDiff, reduceCtorEq, Nat.reduceMul, Nat.reduceAdd, Bool.false_eq_true]
    repeat' apply And.intro
    all_goals first | (apply hK; clear hK K) | exact trivial | rfl | omega | exact .inl trivial | (simp; done)
    refine AW.block ?_
    refine AW.loopL (ι := Nat) (fun i => [(.s 5, .v (.c (.v (vi i)))), (.s 0, .v (.c (.b 1 (ints a)))), (.s 1, .v (.c (.b 1 (ints b))))]) (fun i => a.length - i) (fun i => i ≤ a.length ∧ ∀ j x y, j < i → a[j]? = some x → b[j]? = some y → x = y) 0 ⟨by omega, fun j x y h => by omega⟩ (Sub.of ?_ rfl) ?_
    · simp only [Sub1, go_sem, reduceIte, Nat.reduceEqDiff, reduceCtorEq, true_and, and_true]; rfl
    rintro i ⟨hi, hall⟩
    refine AW.seq ?_
    refine AW.textK (md := noMd) (DstOK.of rfl) ?_
    intro K hK
    simp only [go_sem, reduceIte, Nat.reduceEqDiff, reduceCtorEq, Nat.reduceMul, Nat.reduceAdd, Bool.false_eq_true]
    repeat' apply And.intro
    all_goals first | (apply hK; clear hK K) | exact trivial | rfl | omega | exact .inl trivial | (simp; done)
    refine AW.cond (t := decide ((i : Int) < (a.length : Int))) (by simp only [condV, go_sem, reduceIte, Nat.reduceEqDiff, reduceCtorEq, Nat.reduceMul, Nat.reduceAdd, Bool.false_eq_true]) ?_
    cases hb1 : decide ((i : Int) < (a.length : Int))
    · show AW _ _ _ _ _ _
      have hi2 : ¬ i < a.length := by simpa using hb1
      refine AW.exit ?_
      show AW _ _ _ _ _ _
      refine AW.textK (md := noMd) (DstOK.of rfl) ?_
      intro K hK
      simp only [go_sem, reduceIte, Nat.reduceEqDiff, reduceCtorEq, Nat.reduceMul, Nat.reduceAdd, Bool.false_eq_true]
      repeat' apply And.intro
      all_goals first | (apply hK; clear hK K) | exact trivial | rfl | omega | exact .inl trivial | (simp; done)
      refine AW.ret ⟨.inr rfl, ?_⟩
      refine exitOK_of f14_res f14_tys ?_
      simp only [go_sem, reduceIte, Nat.reduceEqDiff, reduceCtorEq, Nat.reduceMul, Nat.reduceAdd, Bool.false_eq_true]
      refine ⟨rfl, ?_⟩
      first | (have h9 : a = b := ext_of hl (fun j x y h1 h2 => hall j x y (by have := (List.getElem?_eq_some_iff.1 h1).1; omega) h1 h2); simp [h9]; done) | (simp [hne]; done)
    · show AW _ _ _ _ _ _
      have hi2 : i < a.length := by simpa using hb1
      obtain ⟨x, hx⟩ : ∃ x, a[i]? = some x := ⟨a[i], List.getElem?_eq_getElem hi2⟩
      obtain ⟨y, hy⟩ : ∃ y, b[i]? = some y := ⟨b[i]'(by omega), List.getElem?_eq_getElem (by omega)⟩
      refine AW.skip ?_
      show AW _ _ _ _ _ _
      refine AW.seq ?_
      refine AW.block ?_
      refine AW.anyK (md := noMd) mix (DstOK.of rfl) ?_
      intro K hK
      simp only [go_sem, reduceIte, Nat.reduceEqDiff, reduceCtorEq, Nat.reduceMul, Nat.reduceAdd, Bool.false_eq_true, Int.toNat_natCast, Option.map_some, whole, toB, List.drop_zero, List.take_succ_cons, List.take_zero, opsR, M.wpR, List.map_cons, List.map_nil, ints_get a, ints_get b, hx, hy]
      repeat' apply And.intro
      all_goals first | (apply hK; clear hK K) | exact trivial | rfl | omega | exact .inl trivial | (simp; done)
      refine AW.cond (t := (x != y)) (by simp only [condV, go_sem, reduceIte, Nat.reduceEqDiff, reduceCtorEq, Nat.reduceMul, Nat.reduceAdd, Bool.false_eq_true]) ?_
      cases hb2 : (x != y)
      · show AW _ _ _ _ _ _
        have hxy : x = y := by simpa using hb2
        refine AW.skip ?_
        show AW _ _ _ _ _ _
        refine AW.textE (md := noMd) (DstOK.of rfl) ?_
        intro K hK
        simp only [go_sem, reduceIte, Nat.reduceEqDiff, reduceCtorEq, Nat.reduceMul, Nat.reduceAdd, Bool.false_eq_true]
        repeat' apply And.intro
        all_goals first | (apply hK; clear hK K) | exact trivial | rfl | omega | exact .inl trivial | (simp; done)
        refine ⟨i + 1, by omega, ⟨by omega, fun j x' y' hj hx' hy' => ?_⟩, Sub.of ?_ rfl⟩
        · rcases Nat.lt_or_ge j i with h | h
          · exact hall j x' y' h hx' hy'
          · obtain rfl : j = i := by omega
            rw [hx] at hx'; rw [hy] at hy'
            rw [← Option.some.inj hx', ← Option.some.inj hy']; exact hxy
        · simp only [Sub1, go_sem, reduceIte, Nat.reduceEqDiff, reduceCtorEq, true_and, and_true]
          rw [IntWalk.i64_in _ (by omega)]; rfl
      · show AW _ _ _ _ _ _
        have hxy : x ≠ y := by simpa using hb2
        have hne : a ≠ b := fun h => hxy (by rw [h, hy] at hx; exact (Option.some.inj hx).symm)
        refine AW.textK (md := noMd) (DstOK.of rfl) ?_
        intro K hK
        simp only [go_sem, reduceIte, Nat.reduceEqDiff, reduceCtorEq, Nat.reduceMul, Nat.reduceAdd, Bool.false_eq_true]
        repeat' apply And.intro
        all_goals first | (apply hK; clear hK K) | exact trivial | rfl | omega | exact .inl trivial | (simp; done)
        refine AW.ret ⟨.inr rfl, ?_⟩
        refine exitOK_of f14_res f14_tys ?_
        simp only [go_sem, reduceIte, Nat.reduceEqDiff, reduceCtorEq, Nat.reduceMul, Nat.reduceAdd, Bool.false_eq_true]
        refine ⟨rfl, ?_⟩
        first | (have h9 : a = b := ext_of hl (fun j x y h1 h2 => hall j x y (by have := (List.getElem?_eq_some_iff.1 h1).1; omega) h1 h2); simp [h9]; done) | (simp [hne]; done)
  · show AW _ _ _ _ _ _
    have hl : a.length ≠ b.length := by simp at hb0; omega
    have hne : a ≠ b := fun h => hl (by rw [h])
    refine AW.textK (md := noMd) (DstOK.of rfl) ?_
    intro K hK
    simp only [go_sem, reduceIte, Nat.reduceEqDiff, reduceCtorEq, Nat.reduceMul, Nat.reduceAdd, Bool.false_eq_true]
    repeat' apply And.intro
    all_goals first | (apply hK; clear hK K) | exact trivial | rfl | omega | exact .inl trivial | (simp; done)
    refine AW.ret ⟨.inr rfl, ?_⟩
    refine exitOK_of f14_res f14_tys ?_
    simp only [go_sem, reduceIte, Nat.reduceEqDiff, reduceCtorEq, Nat.reduceMul, Nat.reduceAdd, Bool.false_eq_true]
    refine ⟨rfl, ?_⟩
    first | (have h9 : a = b := ext_of hl (fun j x y h1 h2 => hall j x y (by have := (List.getElem?_eq_some_iff.1 h1).1; omega) h1 h2); simp [h9]; done) | (simp [hne]; done)


def idx (p : Int → Bool) (l : List Int) : Int := match l.findIdx? p with
  | some i => i
  | none => -1
theorem idx_some {p : Int → Bool} {l : List Int} {i : Nat} {x : Int} (hx : l[i]? = some x) (hp : p x = true) (h : ∀ (j : Nat) (y : Int), j < i → l[j]? = some y → p y = false) : idx p l = i := by
  obtain ⟨hi, rfl⟩ := List.getElem?_eq_some_iff.1 hx
  have : l.findIdx? p = some i := List.findIdx?_eq_some_iff_getElem.2 ⟨hi, hp, fun j hj => by simpa using h j _ hj (List.getElem?_eq_getElem (by omega))⟩
  simp [idx, this]
theorem idx_none {p : Int → Bool} {l : List Int} (h : ∀ (j : Nat) (y : Int), j < l.length → l[j]? = some y → p y = false) : idx p l = -1 := by
  have : l.findIdx? p = none := List.findIdx?_eq_none_iff.2 fun x hx => by
    obtain ⟨j, hj⟩ := List.mem_iff_getElem?.1 hx
    exact h j x (List.getElem?_eq_some_iff.1 hj).1 hj
  simp [idx, this]

theorem f30_res : Go.Proofs.Try.f30.results.toList = [.tmp 4] := rfl
theorem f30_tys : Go.Proofs.Try.f30.resultTypes.toList = [3] := rfl
theorem idx_c (l : List Int) (p : Int → Bool) (k : Nat) (hl : l.length ≤ 1048576) (hp : ∀ x, Fn Go.Proofs.Try.prog k [.c (.v (vi x))] [.c .d] [.c (.v (.bool (p x)))]) : Fn Go.Proofs.Try.prog 30 [.c (.s false 1 (ints l)), .f k []] [.c .d, .f k []] [.c (.v (vi (idx p l)))] := by
  refine Fn.of Go.Proofs.Try.func30 rfl (by simp [Go.Proofs.Try.f30]) (by rw [Go.Proofs.Try.ntmps30]; simp) rfl ?_ ?_
  · rfl
  rw [entrySt_eq, Go.Proofs.Try.ntmps30]
  simp only [entryL, entryKs, A.ts, entryV, entryC, entryCap, List.map_cons, List.map_nil, List.nil_append, List.append_nil, List.length_cons, List.length_nil]
  refine AW.textK (md := noMd) (DstOK.of rfl) ?_
  intro K hK
  simp only [go_sem, reduceIte, Nat.reduceEqDiff, reduceCtorEq, Nat.reduceMul, Nat.reduceAdd, Bool.false_eq_true]
  repeat' apply And.intro
  all_goals first | (apply hK; clear hK K) | exact trivial | rfl | omega | exact .inl trivial | (simp; done)
  refine AW.seq ?_
  refine AW.textK (md := noMd) (DstOK.of rfl) ?_
  intro K hK
  simp only [go_sem, reduceIte, Nat.reduceEqDiff, reduceCtorEq, Nat.reduceMul, Nat.reduceAdd, Bool.false_eq_true]
  repeat' apply And.intro
  all_goals first | (apply hK; clear hK K) | exact trivial | rfl | omega | exact .inl trivial | (simp; done)
  refine AW.block ?_
  refine AW.loopL (ι := Nat) (fun i => [(.s 8, .v (.c (.v (vi i)))), (.s 7, .v (.c (.v (vi l.length)))), (.s 0, .v (.c (.b 1 (ints l)))), (.s 1, .v (.f k []))]) (fun i => l.length - i) (fun i => i ≤ l.length ∧ ∀ (j : Nat) (y : Int), j < i → l[j]? = some y → p y = false) 0 ⟨by omega, fun j y h => by omega⟩ (Sub.of ?_ rfl) ?_
  · simp only [Sub1, go_sem, reduceIte, Nat.reduceEqDiff, reduceCtorEq, true_and, and_true]; all_goals first | rfl | exact ⟨rfl, trivial⟩
  rintro i ⟨hi, hall⟩
  refine AW.textK (md := noMd) (DstOK.of rfl) ?_
  intro K hK
  simp only [go_sem, reduceIte, Nat.reduceEqDiff, reduceCtorEq, Nat.reduceMul, Nat.reduceAdd, Bool.false_eq_true]
  repeat' apply And.intro
  all_goals first | (apply hK; clear hK K) | exact trivial | rfl | omega | exact .inl trivial | (simp; done)
  refine AW.seq ?_
  refine AW.cond (t := decide ((i : Int) < (l.length : Int))) (by simp only [condV, go_sem, reduceIte, Nat.reduceEqDiff, reduceCtorEq, Nat.reduceMul, Nat.reduceAdd, Bool.false_eq_true]) ?_
  cases hb1 : decide ((i : Int) < (l.length : Int))
  · show AW _ _ _ _ _ _
    have hi2 : ¬ i < l.length := by simpa using hb1
    have hE : idx p l = -1 := idx_none fun j y hj hy => hall j y (by omega) hy
    refine AW.exit ?_
    show AW _ _ _ _ _ _
    refine AW.textK (md := noMd) (DstOK.of rfl) ?_
    intro K hK
    simp only [go_sem, reduceIte, Nat.reduceEqDiff, reduceCtorEq, Nat.reduceMul, Nat.reduceAdd, Bool.false_eq_true]
    repeat' apply And.intro
    all_goals first | (apply hK; clear hK K) | exact trivial | rfl | omega | exact .inl trivial | (simp; done)
    refine AW.ret ⟨.inr rfl, ?_⟩
    refine exitOK_of f30_res f30_tys ?_
    simp only [go_sem, reduceIte, Nat.reduceEqDiff, reduceCtorEq, Nat.reduceMul, Nat.reduceAdd, Bool.false_eq_true]
    refine ⟨rfl, ?_⟩
    simp [hE]
  · show AW _ _ _ _ _ _
    have hi2 : i < l.length := by simpa using hb1
    obtain ⟨x, hx⟩ : ∃ x, l[i]? = some x := ⟨l[i], List.getElem?_eq_getElem hi2⟩
    refine AW.skip ?_
    show AW _ _ _ _ _ _
    refine AW.seq ?_
    refine AW.block ?_
    refine AW.textK (md := noMd) (DstOK.of rfl) ?_
    intro K hK
    simp only [go_sem, reduceIte, Nat.reduceEqDiff, reduceCtorEq, Nat.reduceMul, Nat.reduceAdd, Bool.false_eq_true]
    repeat' apply And.intro
    all_goals first | (apply hK; clear hK K) | exact trivial | rfl | omega | exact .inl trivial | (simp; done)
    refine AW.textK (md := noMd) (DstOK.of rfl) ?_
    intro K hK
    simp only [go_sem, reduceIte, Nat.reduceEqDiff, reduceCtorEq, Nat.reduceMul, Nat.reduceAdd, Bool.false_eq_true, Int.toNat_natCast, Option.map_some, whole, toB, List.drop_zero, List.take_succ_cons, List.take_zero, ints_get l, hx, getOs, callM, argsA, argA, cellA, cellsA, capsA, capA, callable, backs, backT, resVs, resV, resC, tupV]
    repeat' apply And.intro
    all_goals first | (refine ⟨_, _, hp x, ?_⟩; simp only [go_sem, reduceIte, Nat.reduceEqDiff, reduceCtorEq, Nat.reduceMul, Nat.reduceAdd, Bool.false_eq_true, Int.toNat_natCast, Option.map_some, whole, toB, List.drop_zero, List.take_succ_cons, List.take_zero, ints_get l, hx, getOs, callM, argsA, argA, cellA, cellsA, capsA, capA, callable, backs, backT, resVs, resV, resC, tupV]) | exact trivial | rfl | omega | exact .inl trivial | (simp; done) | skip
    repeat' apply And.intro
    all_goals first | (apply hK; clear hK K) | exact trivial | rfl | omega | exact .inl trivial | (simp; done)
    refine AW.cond (t := p x) (by simp only [condV, go_sem, reduceIte, Nat.reduceEqDiff, reduceCtorEq, Nat.reduceMul, Nat.reduceAdd, Bool.false_eq_true]) ?_
    cases hb2 : p x
    · show AW _ _ _ _ _ _
      refine AW.skip ?_
      show AW _ _ _ _ _ _
      refine AW.textE (md := noMd) (DstOK.of rfl) ?_
      intro K hK
      simp only [go_sem, reduceIte, Nat.reduceEqDiff, reduceCtorEq, Nat.reduceMul, Nat.reduceAdd, Bool.false_eq_true]
      repeat' apply And.intro
      all_goals first | (apply hK; clear hK K) | exact trivial | rfl | omega | exact .inl trivial | (simp; done)
      refine ⟨i + 1, by omega, ⟨by omega, fun j y hj hy => ?_⟩, Sub.of ?_ rfl⟩
      · rcases Nat.lt_or_ge j i with h | h
        · exact hall j y h hy
        · obtain rfl : j = i := by omega
          rw [hx] at hy
          rw [← Option.some.inj hy]; exact hb2
      · simp only [Sub1, go_sem, reduceIte, Nat.reduceEqDiff, reduceCtorEq, true_and, and_true]
        rw [IntWalk.i64_in _ (by omega)]; rfl
    · show AW _ _ _ _ _ _
      have hE : idx p l = i := idx_some hx hb2 hall
      refine AW.textK (md := noMd) (DstOK.of rfl) ?_
      intro K hK
      simp only [go_sem, reduceIte, Nat.reduceEqDiff, reduceCtorEq, Nat.reduceMul, Nat.reduceAdd, Bool.false_eq_true]
      repeat' apply And.intro
      all_goals first | (apply hK; clear hK K) | exact trivial | rfl | omega | exact .inl trivial | (simp; done)
      refine AW.ret ⟨.inr rfl, ?_⟩
      refine exitOK_of f30_res f30_tys ?_
      simp only [go_sem, reduceIte, Nat.reduceEqDiff, reduceCtorEq, Nat.reduceMul, Nat.reduceAdd, Bool.false_eq_true]
      refine ⟨rfl, ?_⟩
      simp [hE]

theorem f27_res : Go.Proofs.Try.f27.results.toList = [.tmp 4] := rfl
theorem f27_tys : Go.Proofs.Try.f27.resultTypes.toList = [4] := rfl
theorem contains_c (l : List Int) (p : Int → Bool) (k : Nat) (hl : l.length ≤ 1048576) (hp : ∀ x, Fn Go.Proofs.Try.prog k [.c (.v (vi x))] [.c .d] [.c (.v (.bool (p x)))]) : Fn Go.Proofs.Try.prog 27 [.c (.s false 1 (ints l)), .f k []] [.c .d, .f k []] [.c (.v (.bool (decide (idx p l ≥ 0))))] := by
  refine Fn.of Go.Proofs.Try.func27 rfl (by simp [Go.Proofs.Try.f27]) (by rw [Go.Proofs.Try.ntmps27]; simp) rfl ?_ ?_
  · rfl
  rw [entrySt_eq, Go.Proofs.Try.ntmps27]
  simp only [entryL, entryKs, A.ts, entryV, entryC, entryCap, List.map_cons, List.map_nil, List.nil_append, List.append_nil, List.length_cons, List.length_nil]
  refine AW.textK (md := noMd) (DstOK.of rfl) ?_
  intro K hK
  simp only [go_sem, reduceIte, Nat.reduceEqDiff, reduceCtorEq, Nat.reduceMul, Nat.reduceAdd, Bool.false_eq_true]
  repeat' apply And.intro
  all_goals first | (apply hK; clear hK K) | exact trivial | rfl | omega | exact .inl trivial | (simp; done)
  refine AW.textK (md := noMd) (DstOK.of rfl) ?_
  intro K hK
  simp only [go_sem, reduceIte, Nat.reduceEqDiff, reduceCtorEq, Nat.reduceMul, Nat.reduceAdd, Bool.false_eq_true, getOs, callM, argsA, argA, cellA, cellsA, capsA, capA, callable, backs, backT, resVs, resV, resC, tupV]
  repeat' apply And.intro
  all_goals first | (refine ⟨_, _, idx_c l p k hl hp, ?_⟩; simp only [go_sem, reduceIte, Nat.reduceEqDiff, reduceCtorEq, Nat.reduceMul, Nat.reduceAdd, Bool.false_eq_true, getOs, callM, argsA, argA, cellA, cellsA, capsA, capA, callable, backs, backT, resVs, resV, resC, tupV]) | exact trivial | rfl | omega | exact .inl trivial | (simp; done) | skip
  repeat' apply And.intro
  all_goals first | (apply hK; clear hK K) | exact trivial | rfl | omega | exact .inl trivial | (simp; done)
  refine AW.ret ⟨.inr rfl, ?_⟩
  refine exitOK_of f27_res f27_tys ?_
  simp only [go_sem, reduceIte, Nat.reduceEqDiff, reduceCtorEq, Nat.reduceMul, Nat.reduceAdd, Bool.false_eq_true]
  repeat' apply And.intro
  all_goals first | rfl | exact trivial | (simp; done) | (simp [*]; done)



def side (x : Int) : Bool := decide (0 ≤ x) && decide (x ≤ 3)
def areSides (l : List Int) : Bool := ((l.length : Int) == 5) && l.all side
theorem areSides_idx (l : List Int) : (((l.length : Int) == 5) && !(decide (idx (fun x => !side x) l ≥ 0))) = areSides l := by
  unfold areSides
  congr 1
  cases h : l.all side with
  | true =>
    have : idx (fun x => !side x) l = -1 := idx_none fun j y _ hy => by
      have := List.all_eq_true.1 h y (List.mem_of_getElem? hy)
      simp [this]
    simp [this]
  | false =>
    have h2 : (l.findIdx? fun x => !side x) ≠ none := by
      intro hn
      rw [List.findIdx?_eq_none_iff] at hn
      have : l.all side = true := List.all_eq_true.2 fun x hx => by simpa using hn x hx
      rw [h] at this; simp at this
    obtain ⟨i, hi⟩ := Option.ne_none_iff_exists'.1 h2
    simp [idx, hi]
theorem clo28' (x : Int) : Fn Go.Proofs.Try.prog 28 [.c (.v (vi x))] [.c .d] [.c (.v (.bool ((fun x => !side x) x)))] := clo28 x

theorem f13_res : Go.Proofs.Try.f13.results.toList = [.tmp 2] := rfl
theorem f13_tys : Go.Proofs.Try.f13.resultTypes.toList = [4] := rfl
theorem areSides_impl (l : List Int) (hl : l.length ≤ 1048576) : Fn Go.Proofs.Try.prog 13 [.c (.s false 1 (ints l))] [.c .d] [.c (.v (.bool (areSides l)))] := by
  refine Fn.of Go.Proofs.Try.func13 rfl (by simp [Go.Proofs.Try.f13]) (by rw [Go.Proofs.Try.ntmps13]; simp) rfl ?_ ?_
  · rfl
  rw [entrySt_eq, Go.Proofs.Try.ntmps13]
  simp only [entryL, entryKs, A.ts, entryV, entryC, entryCap, List.map_cons, List.map_nil, List.nil_append, List.append_nil, List.length_cons, List.length_nil]
  refine AW.textK (md := noMd) (DstOK.of rfl) ?_
  intro K hK
  simp only [go_sem, reduceIte, Nat.reduceEqDiff, reduceCtorEq, Nat.reduceMul, Nat.reduceAdd, Bool.false_eq_true]
  repeat' apply And.intro
  all_goals first | (apply hK; clear hK K) | exact trivial | rfl | omega | exact .inl trivial | (simp; done)
  cases h1 : ((l.length : Int) == 5)
  · skip
    refine AW.textK (md := noMd) (DstOK.of rfl) ?_
    intro K hK
    simp only [go_sem, reduceIte, Nat.reduceEqDiff, reduceCtorEq, Nat.reduceMul, Nat.reduceAdd, Bool.false_eq_true, h1, decide_true, decide_false, getOs, callM, argsA, argA, cellA, cellsA, capsA, capA, callable, backs, backT, resVs, resV, resC, tupV]
    repeat' apply And.intro
    all_goals first | (refine ⟨_, _, contains_c l (fun x => !side x) 28 hl clo28', ?_⟩; simp only [go_sem, reduceIte, Nat.reduceEqDiff, reduceCtorEq, Nat.reduceMul, Nat.reduceAdd, Bool.false_eq_true, h1, decide_true, decide_false, getOs, callM, argsA, argA, cellA, cellsA, capsA, capA, callable, backs, backT, resVs, resV, resC, tupV]) | exact trivial | rfl | omega | exact .inl trivial | (simp; done) | skip
    repeat' apply And.intro
    all_goals first | (apply hK; clear hK K) | exact trivial | rfl | omega | exact .inl trivial | (simp; done)
    refine AW.ret ⟨.inr rfl, ?_⟩
    refine exitOK_of f13_res f13_tys ?_
    simp only [go_sem, reduceIte, Nat.reduceEqDiff, reduceCtorEq, Nat.reduceMul, Nat.reduceAdd, Bool.false_eq_true, h1, decide_true, decide_false]
    refine ⟨rfl, ?_⟩
    rw [← areSides_idx]; simp [h1]
  · skip
    refine AW.textK (md := noMd) (DstOK.of rfl) ?_
    intro K hK
    simp only [go_sem, reduceIte, Nat.reduceEqDiff, reduceCtorEq, Nat.reduceMul, Nat.reduceAdd, Bool.false_eq_true, h1, decide_true, decide_false, getOs, callM, argsA, argA, cellA, cellsA, capsA, capA, callable, backs, backT, resVs, resV, resC, tupV]
    repeat' apply And.intro
    all_goals first | (refine ⟨_, _, contains_c l (fun x => !side x) 28 hl clo28', ?_⟩; simp only [go_sem, reduceIte, Nat.reduceEqDiff, reduceCtorEq, Nat.reduceMul, Nat.reduceAdd, Bool.false_eq_true, h1, decide_true, decide_false, getOs, callM, argsA, argA, cellA, cellsA, capsA, capA, callable, backs, backT, resVs, resV, resC, tupV]) | exact trivial | rfl | omega | exact .inl trivial | (simp; done) | skip
    repeat' apply And.intro
    all_goals first | (apply hK; clear hK K) | exact trivial | rfl | omega | exact .inl trivial | (simp; done)
    refine AW.ret ⟨.inr rfl, ?_⟩
    refine exitOK_of f13_res f13_tys ?_
    simp only [go_sem, reduceIte, Nat.reduceEqDiff, reduceCtorEq, Nat.reduceMul, Nat.reduceAdd, Bool.false_eq_true, h1, decide_true, decide_false]
    refine ⟨rfl, ?_⟩
    rw [← areSides_idx]; simp [h1]

theorem in_spec' (x : Int) : Fn Go.Proofs.Try.prog 25 [.c (.v (vi x)), .c (.v (vi 0)), .c (.v (vi 3))] [.c .d, .c .d, .c .d] [.c (.v (.bool (side x)))] := in_spec x 0 3

theorem f11_res : Go.Proofs.Try.f11.results.toList = [.tmp 2] := rfl
theorem f11_tys : Go.Proofs.Try.f11.resultTypes.toList = [4] := rfl
theorem areSides_spec (l : List Int) (hl : l.length ≤ 1048576) : Fn Go.Proofs.Try.prog 11 [.c (.s false 1 (ints l))] [.c .d] [.c (.v (.bool (areSides l)))] := by
  refine Fn.of Go.Proofs.Try.func11 rfl (by simp [Go.Proofs.Try.f11]) (by rw [Go.Proofs.Try.ntmps11]; simp) rfl ?_ ?_
  · rfl
  rw [entrySt_eq, Go.Proofs.Try.ntmps11]
  simp only [entryL, entryKs, A.ts, entryV, entryC, entryCap, List.map_cons, List.map_nil, List.nil_append, List.append_nil, List.length_cons, List.length_nil]
  refine AW.textK (md := noMd) (DstOK.of rfl) ?_
  intro K hK
  simp only [go_sem, reduceIte, Nat.reduceEqDiff, reduceCtorEq, Nat.reduceMul, Nat.reduceAdd, Bool.false_eq_true]
  repeat' apply And.intro
  all_goals first | (apply hK; clear hK K) | exact trivial | rfl | omega | exact .inl trivial | (simp; done)
  refine AW.seq ?_
  refine AW.textK (md := noMd) (DstOK.of rfl) ?_
  intro K hK
  simp only [go_sem, reduceIte, Nat.reduceEqDiff, reduceCtorEq, Nat.reduceMul, Nat.reduceAdd, Bool.false_eq_true]
  repeat' apply And.intro
  all_goals first | (apply hK; clear hK K) | exact trivial | rfl | omega | exact .inl trivial | (simp; done)
  refine AW.block ?_
  refine AW.loopL (ι := Nat) (fun i => [(.s 3, .v (.c (.v (vi i)))), (.s 0, .v (.c (.b 1 (ints l))))]) (fun i => l.length - i) (fun i => i ≤ l.length ∧ ∀ (j : Nat) (y : Int), j < i → l[j]? = some y → side y = true) 0 ⟨by omega, fun j y h => by omega⟩ (Sub.of ?_ rfl) ?_
  · simp only [Sub1, go_sem, reduceIte, Nat.reduceEqDiff, reduceCtorEq, true_and, and_true]; all_goals first | rfl | exact ⟨rfl, trivial⟩
  rintro i ⟨hi, hall⟩
  refine AW.seq ?_
  refine AW.textK (md := noMd) (DstOK.of rfl) ?_
  intro K hK
  simp only [go_sem, reduceIte, Nat.reduceEqDiff, reduceCtorEq, Nat.reduceMul, Nat.reduceAdd, Bool.false_eq_true]
  repeat' apply And.intro
  all_goals first | (apply hK; clear hK K) | exact trivial | rfl | omega | exact .inl trivial | (simp; done)
  refine AW.cond (t := decide ((i : Int) < (l.length : Int))) (by simp only [condV, go_sem, reduceIte, Nat.reduceEqDiff, reduceCtorEq, Nat.reduceMul, Nat.reduceAdd, Bool.false_eq_true]) ?_
  cases hb1 : decide ((i : Int) < (l.length : Int))
  · show AW _ _ _ _ _ _
    have hi2 : ¬ i < l.length := by simpa using hb1
    have hE : areSides l = ((l.length : Int) == 5) := by
      have : l.all side = true := List.all_eq_true.2 fun x hx => by
        obtain ⟨j, hj⟩ := List.mem_iff_getElem?.1 hx
        exact hall j x (by have := (List.getElem?_eq_some_iff.1 hj).1; omega) hj
      simp [areSides, this]
    refine AW.exit ?_
    show AW _ _ _ _ _ _
    refine AW.textK (md := noMd) (DstOK.of rfl) ?_
    intro K hK
    simp only [go_sem, reduceIte, Nat.reduceEqDiff, reduceCtorEq, Nat.reduceMul, Nat.reduceAdd, Bool.false_eq_true]
    repeat' apply And.intro
    all_goals first | (apply hK; clear hK K) | exact trivial | rfl | omega | exact .inl trivial | (simp; done)
    refine AW.ret ⟨.inr rfl, ?_⟩
    refine exitOK_of f11_res f11_tys ?_
    simp only [go_sem, reduceIte, Nat.reduceEqDiff, reduceCtorEq, Nat.reduceMul, Nat.reduceAdd, Bool.false_eq_true]
    refine ⟨rfl, ?_⟩
    simp [hE]
  · show AW _ _ _ _ _ _
    have hi2 : i < l.length := by simpa using hb1
    obtain ⟨x, hx⟩ : ∃ x, l[i]? = some x := ⟨l[i], List.getElem?_eq_getElem hi2⟩
    refine AW.skip ?_
    show AW _ _ _ _ _ _
    refine AW.seq ?_
    refine AW.block ?_
    refine AW.textK (md := noMd) (DstOK.of rfl) ?_
    intro K hK
    simp only [go_sem, reduceIte, Nat.reduceEqDiff, reduceCtorEq, Nat.reduceMul, Nat.reduceAdd, Bool.false_eq_true, Int.toNat_natCast, Option.map_some, whole, toB, List.drop_zero, List.take_succ_cons, List.take_zero, ints_get l, hx, getOs, callM, argsA, argA, cellA, cellsA, capsA, capA, callable, backs, backT, resVs, resV, resC, tupV]
    repeat' apply And.intro
    all_goals first | (refine ⟨_, _, in_spec' x, ?_⟩; simp only [go_sem, reduceIte, Nat.reduceEqDiff, reduceCtorEq, Nat.reduceMul, Nat.reduceAdd, Bool.false_eq_true, Int.toNat_natCast, Option.map_some, whole, toB, List.drop_zero, List.take_succ_cons, List.take_zero, ints_get l, hx, getOs, callM, argsA, argA, cellA, cellsA, capsA, capA, callable, backs, backT, resVs, resV, resC, tupV]) | exact trivial | rfl | omega | exact .inl trivial | (simp; done) | skip
    repeat' apply And.intro
    all_goals first | (apply hK; clear hK K) | exact trivial | rfl | omega | exact .inl trivial | (simp; done)
    refine AW.cond (t := (!side x)) (by simp only [condV, go_sem, reduceIte, Nat.reduceEqDiff, reduceCtorEq, Nat.reduceMul, Nat.reduceAdd, Bool.false_eq_true]) ?_
    cases hb2 : (!side x)
    · show AW _ _ _ _ _ _
      have hs : side x = true := by simpa using hb2
      refine AW.skip ?_
      show AW _ _ _ _ _ _
      refine AW.textE (md := noMd) (DstOK.of rfl) ?_
      intro K hK
      simp only [go_sem, reduceIte, Nat.reduceEqDiff, reduceCtorEq, Nat.reduceMul, Nat.reduceAdd, Bool.false_eq_true]
      repeat' apply And.intro
      all_goals first | (apply hK; clear hK K) | exact trivial | rfl | omega | exact .inl trivial | (simp; done)
      refine ⟨i + 1, by omega, ⟨by omega, fun j y hj hy => ?_⟩, Sub.of ?_ rfl⟩
      · rcases Nat.lt_or_ge j i with h | h
        · exact hall j y h hy
        · obtain rfl : j = i := by omega
          rw [hx] at hy
          rw [← Option.some.inj hy]; exact hs
      · simp only [Sub1, go_sem, reduceIte, Nat.reduceEqDiff, reduceCtorEq, true_and, and_true]
        rw [IntWalk.i64_in _ (by omega)]; rfl
    · show AW _ _ _ _ _ _
      have hE : areSides l = false := by
        have : l.all side = false := by
          rw [Bool.eq_false_iff]
          intro h
          have := List.all_eq_true.1 h x (List.mem_of_getElem? hx)
          rw [this] at hb2; simp at hb2
        simp [areSides, this]
      refine AW.textK (md := noMd) (DstOK.of rfl) ?_
      intro K hK
      simp only [go_sem, reduceIte, Nat.reduceEqDiff, reduceCtorEq, Nat.reduceMul, Nat.reduceAdd, Bool.false_eq_true]
      repeat' apply And.intro
      all_goals first | (apply hK; clear hK K) | exact trivial | rfl | omega | exact .inl trivial | (simp; done)
      refine AW.ret ⟨.inr rfl, ?_⟩
      refine exitOK_of f11_res f11_tys ?_
      simp only [go_sem, reduceIte, Nat.reduceEqDiff, reduceCtorEq, Nat.reduceMul, Nat.reduceAdd, Bool.false_eq_true]
      refine ⟨rfl, ?_⟩
      simp [hE]


theorem toIntS_c (l : List Int) (hl : l.length ≤ 1048576) : Fn Go.Proofs.Try.prog 12 [.c (.s false 1 (ints l))] [.c .d] [.c (.s true 1 (ints l))] := by
  refine Fn.of Go.Proofs.Try.func12 rfl (by simp [Go.Proofs.Try.f12]) (by rw [Go.Proofs.Try.ntmps12]; simp) rfl ?_ ?_
  · simp [resOK, ownE, ownT, A.ts, ownEs_ints]
  rw [entrySt_eq, Go.Proofs.Try.ntmps12]
  simp only [entryL, entryKs, A.ts, entryV, entryC, List.nil_append, List.append_nil, List.length_cons, List.length_nil]
  refine AW.textK (md := noMd) (DstOK.of rfl) ?_
  intro K hK
  simp only [go_sem, reduceIte, Nat.reduceEqDiff, reduceCtorEq]
  apply hK
  clear hK K
  refine AW.textK (md := noMd) (DstOK.of rfl) ?_
  intro K hK
  simp only [go_sem, reduceIte, Nat.reduceEqDiff, reduceCtorEq]
  refine ⟨?_, ?_⟩
  · refine ⟨by simp, by simp, by omega, trivial, by omega, by omega⟩
  apply hK
  clear hK K
  refine AW.seq ?_
  refine AW.textK (md := noMd) (DstOK.of rfl) ?_
  intro K hK
  simp only [go_sem, reduceIte, Nat.reduceEqDiff, reduceCtorEq]
  apply hK
  clear hK K
  refine AW.block ?_
  refine AW.loopL (ι := Nat) (fun i => [(.s 4, .v (.c (.v (vi i)))), (.s 3, .v (.c (.r (7, 0) 0 [] 0 l.length))), (.k (7, 0), .e ⟨0, 1, ints (l.take i ++ List.replicate (l.length - i) 0)⟩), (.s 0, .v (.c (.b 1 (ints l))))]) (fun i => l.length - i) (fun i => i ≤ l.length) 0 (by omega) (Sub.of ?_ rfl) ?_
  · simp only [Sub1, go_sem, reduceIte, Nat.reduceEqDiff, reduceCtorEq, true_and, and_true]
    simp [ints]
  intro i hi
  refine AW.seq ?_
  refine AW.textK (md := noMd) (DstOK.of rfl) ?_
  intro K hK
  simp only [go_sem, reduceIte, Nat.reduceEqDiff, reduceCtorEq]
  apply hK
  clear hK K
  refine AW.cond (t := decide ((i : Int) < (l.length : Int))) (by simp only [condV, go_sem, reduceIte, Nat.reduceEqDiff, reduceCtorEq]) ?_
  by_cases hc : (i : Int) < (l.length : Int)
  · simp only [hc, decide_true, if_true]
    refine AW.skip ?_
    refine AW.seq (AW.block ?_)
    refine AW.textE (md := noMd) (DstOK.of rfl) ?_
    intro K hK
    simp only [go_sem, reduceIte, Nat.reduceEqDiff, reduceCtorEq]
    obtain ⟨x, hx⟩ : ∃ x, l[i]? = some x := ⟨l[i]'(by omega), List.getElem?_eq_getElem (by omega)⟩
    have hy : (ints (l.take i ++ List.replicate (l.length - i) 0))[i]? = some [.v (vi 0)] := by
      rw [ints_get, List.getElem?_append_right (by simp; omega)]
      simp [List.getElem?_replicate]; omega
    simp only [go_sem, reduceIte, Nat.reduceEqDiff, reduceCtorEq, Int.toNat_natCast, ints_get l, hx, Option.map_some, whole, toB, List.drop_zero, List.take_succ_cons, List.take_zero, getR, getE, ovl, rowAt, V.cells, convs, conv, setRow, splice, hy, T.isV, List.all_cons, List.all_nil, Bool.and_true, Nat.zero_add, List.append_nil]
    refine ⟨⟨by omega, by omega, trivial⟩, ⟨by omega, by omega⟩, .inl trivial, ⟨by omega, by omega, by simp only [List.length_append, List.length_take, List.length_replicate]; omega, trivial⟩, ⟨trivial, by omega⟩, rfl, .inl trivial, by omega, ?_⟩
    apply hK
    clear hK K
    refine AW.textE (md := noMd) (DstOK.of rfl) ?_
    intro K hK
    simp only [go_sem, reduceIte, Nat.reduceEqDiff, reduceCtorEq]
    apply hK
    clear hK K
    refine ⟨i + 1, by omega, by omega, Sub.of ?_ rfl⟩
    simp only [Sub1, go_sem, reduceIte, Nat.reduceEqDiff, reduceCtorEq, true_and, and_true]
    refine ⟨by rw [IntWalk.i64_in _ (by omega)]; rfl, ?_⟩
    congr 2
    apply List.ext_getElem?
    intro j
    simp only [List.set_cons_zero]
    by_cases hj : j = i
    · subst hj
      rw [List.getElem?_set_self (by rw [ints_length]; simp only [List.length_append, List.length_take, List.length_replicate]; omega), ints_get, List.getElem?_append_left (by simp; omega), List.getElem?_take_of_lt (by omega), hx]
      rfl
    · rw [List.getElem?_set_ne (Ne.symm hj), ints_get, ints_get]
      congr 1
      by_cases hlt : j < i
      · rw [List.getElem?_append_left (by simp; omega), List.getElem?_append_left (by simp; omega), List.getElem?_take_of_lt hlt, List.getElem?_take_of_lt (by omega)]
      · rw [List.getElem?_append_right (by simp; omega), List.getElem?_append_right (by simp; omega)]
        simp only [List.getElem?_replicate, List.length_take]
        by_cases h3 : j - min i l.length < l.length - i
        · rw [if_pos h3, if_pos (by omega)]
        · rw [if_neg h3, if_neg (by omega)]
  · simp only [hc, decide_false, if_false, Bool.false_eq_true]
    refine AW.exit ?_
    simp only [AExit, ABlock, if_true]
    refine AW.textK (md := noMd) (DstOK.of rfl) ?_
    intro K hK
    simp only [go_sem, reduceIte, Nat.reduceEqDiff, reduceCtorEq]
    apply hK
    clear hK K
    refine AW.ret ⟨.inr rfl, ?_⟩
    have e1 : Go.Proofs.Try.f12.results.toList = [.tmp 2] := rfl
    have e2 : Go.Proofs.Try.f12.resultTypes.toList = [24] := rfl
    have hi2 : i = l.length := by omega
    subst hi2
    simp only [ExitOK, e1, e2, resultsM, resultM, outM, outM1, go_sem, reduceIte, Nat.reduceEqDiff, reduceCtorEq, convs, conv, getE, ovl, finAs, finA, finT]
    simp


theorem un4 : Go.Proofs.Try.prog.underlying 4 = some .bool := by kernel_rfl
theorem bor_ints (l : List Int) : borEs (ints l) = ints l := by
  rw [borEs_eq]
  simp only [ints, List.map_map]
  rfl
theorem take_ints (l : List Int) : List.take l.length (ints l) = ints l := by
  have := List.take_length (l := ints l)
  rw [ints_length] at this
  exact this

theorem f4_res : Go.Proofs.Try.f4.results.toList = [.tmp 2] := rfl
theorem f4_tys : Go.Proofs.Try.f4.resultTypes.toList = [4] := rfl
theorem law4 (l : List Int) : Fn Go.Proofs.Try.prog 4 [.c (.s false 1 (ints l))] [.c .d] [.c (.v (.bool true))] := by
  refine Fn.of Go.Proofs.Try.func4 rfl (by simp [Go.Proofs.Try.f4]) (by rw [Go.Proofs.Try.ntmps4]; simp) rfl ?_ ?_
  · rfl
  rw [entrySt_eq, Go.Proofs.Try.ntmps4]
  simp only [entryL, entryKs, A.ts, entryV, entryC, entryCap, List.map_cons, List.map_nil, List.nil_append, List.append_nil, List.length_cons, List.length_nil]
  refine AW.textK (md := noMd) (DstOK.of rfl) ?_
  intro K hK
  simp only [go_sem, reduceIte, Nat.reduceEqDiff, reduceCtorEq, Nat.reduceMul, Nat.reduceAdd, Bool.false_eq_true, un4, bor_ints, take_ints, List.drop_zero]
  repeat' apply And.intro
  all_goals first | (apply hK; clear hK K) | exact trivial | rfl | omega | exact .inl trivial | (simp; done)
  refine AW.seq ?_
  refine AW.textK (md := noMd) (DstOK.of rfl) ?_
  intro K hK
  simp only [go_sem, reduceIte, Nat.reduceEqDiff, reduceCtorEq, Nat.reduceMul, Nat.reduceAdd, Bool.false_eq_true, un4, bor_ints, take_ints, List.drop_zero]
  repeat' apply And.intro
  all_goals first | (apply hK; clear hK K) | exact trivial | rfl | omega | exact .inl trivial | (simp; done)
  refine AW.cond (t := decide ((l.length : Int) > 1048576)) (by simp only [condV, go_sem, reduceIte, Nat.reduceEqDiff, reduceCtorEq, Nat.reduceMul, Nat.reduceAdd, Bool.false_eq_true]) ?_
  cases hb1 : decide ((l.length : Int) > 1048576)
  · show AW _ _ _ _ _ _
    have hl : l.length ≤ 1048576 := by simp at hb1; omega
    refine AW.skip ?_
    show AW _ _ _ _ _ _
    refine AW.textK (md := noMd) (DstOK.of rfl) ?_
    intro K hK
    simp only [go_sem, reduceIte, Nat.reduceEqDiff, reduceCtorEq, Nat.reduceMul, Nat.reduceAdd, Bool.false_eq_true, un4, bor_ints, take_ints, List.drop_zero, getOs, callM, argsA, argA, cellA, cellsA, capsA, capA, callable, backs, backT, resVs, resV, resC, tupV]
    repeat' apply And.intro
    all_goals first | (refine ⟨_, _, toIntS_c l hl, ?_⟩; simp only [go_sem, reduceIte, Nat.reduceEqDiff, reduceCtorEq, Nat.reduceMul, Nat.reduceAdd, Bool.false_eq_true, un4, bor_ints, take_ints, List.drop_zero, getOs, callM, argsA, argA, cellA, cellsA, capsA, capA, callable, backs, backT, resVs, resV, resC, tupV]) | exact trivial | rfl | omega | exact .inl trivial | (simp; done) | skip
    repeat' apply And.intro
    all_goals first | (refine ⟨_, _, areSides_spec l hl, ?_⟩; simp only [go_sem, reduceIte, Nat.reduceEqDiff, reduceCtorEq, Nat.reduceMul, Nat.reduceAdd, Bool.false_eq_true, un4, bor_ints, take_ints, List.drop_zero, getOs, callM, argsA, argA, cellA, cellsA, capsA, capA, callable, backs, backT, resVs, resV, resC, tupV]) | exact trivial | rfl | omega | exact .inl trivial | (simp; done) | skip
    repeat' apply And.intro
    all_goals first | (apply hK; clear hK K) | exact trivial | rfl | omega | exact .inl trivial | (simp; done)
    refine AW.textK (md := noMd) (DstOK.of rfl) ?_
    intro K hK
    simp only [go_sem, reduceIte, Nat.reduceEqDiff, reduceCtorEq, Nat.reduceMul, Nat.reduceAdd, Bool.false_eq_true, un4, bor_ints, take_ints, List.drop_zero, getOs, callM, argsA, argA, cellA, cellsA, capsA, capA, callable, backs, backT, resVs, resV, resC, tupV]
    repeat' apply And.intro
    all_goals first | (refine ⟨_, _, toIntS_c l hl, ?_⟩; simp only [go_sem, reduceIte, Nat.reduceEqDiff, reduceCtorEq, Nat.reduceMul, Nat.reduceAdd, Bool.false_eq_true, un4, bor_ints, take_ints, List.drop_zero, getOs, callM, argsA, argA, cellA, cellsA, capsA, capA, callable, backs, backT, resVs, resV, resC, tupV]) | exact trivial | rfl | omega | exact .inl trivial | (simp; done) | skip
    repeat' apply And.intro
    all_goals first | (apply hK; clear hK K) | exact trivial | rfl | omega | exact .inl trivial | (simp; done)
    refine AW.textK (md := noMd) (DstOK.of rfl) ?_
    intro K hK
    simp only [go_sem, reduceIte, Nat.reduceEqDiff, reduceCtorEq, Nat.reduceMul, Nat.reduceAdd, Bool.false_eq_true, un4, bor_ints, take_ints, List.drop_zero, getOs, callM, argsA, argA, cellA, cellsA, capsA, capA, callable, backs, backT, resVs, resV, resC, tupV]
    repeat' apply And.intro
    all_goals first | (refine ⟨_, _, areSides_impl l hl, ?_⟩; simp only [go_sem, reduceIte, Nat.reduceEqDiff, reduceCtorEq, Nat.reduceMul, Nat.reduceAdd, Bool.false_eq_true, un4, bor_ints, take_ints, List.drop_zero, getOs, callM, argsA, argA, cellA, cellsA, capsA, capA, callable, backs, backT, resVs, resV, resC, tupV]) | exact trivial | rfl | omega | exact .inl trivial | (simp; done) | skip
    repeat' apply And.intro
    all_goals first | (apply hK; clear hK K) | exact trivial | rfl | omega | exact .inl trivial | (simp; done)
    refine AW.seq ?_
    refine AW.textK (md := noMd) (DstOK.of rfl) ?_
    intro K hK
    simp only [go_sem, reduceIte, Nat.reduceEqDiff, reduceCtorEq, Nat.reduceMul, Nat.reduceAdd, Bool.false_eq_true, un4, bor_ints, take_ints, List.drop_zero]
    repeat' apply And.intro
    all_goals first | (apply hK; clear hK K) | exact trivial | rfl | omega | exact .inl trivial | (simp; done)
    refine AW.cond (t := (!(areSides l == areSides l))) (by simp only [condV, go_sem, reduceIte, Nat.reduceEqDiff, reduceCtorEq, Nat.reduceMul, Nat.reduceAdd, Bool.false_eq_true]) ?_
    cases hb2 : (!(areSides l == areSides l))
    · show AW _ _ _ _ _ _
      refine AW.skip ?_
      show AW _ _ _ _ _ _
      refine AW.seq ?_
      refine AW.textK (md := noMd) (DstOK.of rfl) ?_
      intro K hK
      simp only [go_sem, reduceIte, Nat.reduceEqDiff, reduceCtorEq, Nat.reduceMul, Nat.reduceAdd, Bool.false_eq_true, un4, bor_ints, take_ints, List.drop_zero, getOs, callM, argsA, argA, cellA, cellsA, capsA, capA, callable, backs, backT, resVs, resV, resC, tupV]
      repeat' apply And.intro
      all_goals first | (refine ⟨_, _, toIntS_c l hl, ?_⟩; simp only [go_sem, reduceIte, Nat.reduceEqDiff, reduceCtorEq, Nat.reduceMul, Nat.reduceAdd, Bool.false_eq_true, un4, bor_ints, take_ints, List.drop_zero, getOs, callM, argsA, argA, cellA, cellsA, capsA, capA, callable, backs, backT, resVs, resV, resC, tupV]) | exact trivial | rfl | omega | exact .inl trivial | (simp; done) | skip
      repeat' apply And.intro
      all_goals first | (refine ⟨_, _, eqIntS_c l l hl hl, ?_⟩; simp only [go_sem, reduceIte, Nat.reduceEqDiff, reduceCtorEq, Nat.reduceMul, Nat.reduceAdd, Bool.false_eq_true, un4, bor_ints, take_ints, List.drop_zero, getOs, callM, argsA, argA, cellA, cellsA, capsA, capA, callable, backs, backT, resVs, resV, resC, tupV]) | exact trivial | rfl | omega | exact .inl trivial | (simp; done) | skip
      repeat' apply And.intro
      all_goals first | (apply hK; clear hK K) | exact trivial | rfl | omega | exact .inl trivial | (simp; done)
      refine AW.cond (t := (!decide (l = l))) (by simp only [condV, go_sem, reduceIte, Nat.reduceEqDiff, reduceCtorEq, Nat.reduceMul, Nat.reduceAdd, Bool.false_eq_true]) ?_
      cases hb3 : (!decide (l = l))
      · show AW _ _ _ _ _ _
        refine AW.skip ?_
        show AW _ _ _ _ _ _
        refine AW.textK (md := noMd) (DstOK.of rfl) ?_
        intro K hK
        simp only [go_sem, reduceIte, Nat.reduceEqDiff, reduceCtorEq, Nat.reduceMul, Nat.reduceAdd, Bool.false_eq_true, un4, bor_ints, take_ints, List.drop_zero]
        repeat' apply And.intro
        all_goals first | (apply hK; clear hK K) | exact trivial | rfl | omega | exact .inl trivial | (simp; done)
        refine AW.ret ⟨.inr rfl, ?_⟩
        refine exitOK_of f4_res f4_tys ?_
        simp only [go_sem, reduceIte, Nat.reduceEqDiff, reduceCtorEq, Nat.reduceMul, Nat.reduceAdd, Bool.false_eq_true, un4, bor_ints, take_ints, List.drop_zero]
        all_goals repeat' apply And.intro
        all_goals first | rfl | exact trivial | (simp; done)
      · show AW _ _ _ _ _ _
        exfalso
        simp at hb3
    · show AW _ _ _ _ _ _
      exfalso
      simp at hb2
  · show AW _ _ _ _ _ _
    refine AW.textK (md := noMd) (DstOK.of rfl) ?_
    intro K hK
    simp only [go_sem, reduceIte, Nat.reduceEqDiff, reduceCtorEq, Nat.reduceMul, Nat.reduceAdd, Bool.false_eq_true, un4, bor_ints, take_ints, List.drop_zero]
    repeat' apply And.intro
    all_goals first | (apply hK; clear hK K) | exact trivial | rfl | omega | exact .inl trivial | (simp; done)
    refine AW.ret ⟨.inr rfl, ?_⟩
    refine exitOK_of f4_res f4_tys ?_
    simp only [go_sem, reduceIte, Nat.reduceEqDiff, reduceCtorEq, Nat.reduceMul, Nat.reduceAdd, Bool.false_eq_true, un4, bor_ints, take_ints, List.drop_zero]
    all_goals repeat' apply And.intro
    all_goals first | rfl | exact trivial | (simp; done)

end Go.Abs

/- laws.FnExactAreSides returns true whatever its argument is, and its argument reads behind the call as it read before. No condition. -/
import Derived.Test.YtolmelplkiefjaaSides
import Derived.Test.YtolmelplkiefjaaRows
import Derived.ProofKit
import Derived.Carry
import Derived.ChangeSlices
set_option linter.unusedVariables false
namespace Go.Proofs.Ytolmelplkiefjaa
open Go.ChangeShapes Go.WideShapes Go.ChangeAt Go.RowKit Go.Abs

theorem Try.own : ownKnob Try.prog.godebug = none := by kernel_rfl
theorem Try.laidOut : laidOutB Try.prog = true := by kernel_rfl
theorem Try.und24 : Try.prog.underlying 24 = some (.slice 3) := by kernel_rfl
theorem Try.und3 : Try.prog.underlying 3 = some (.int .i64) := by kernel_rfl
theorem Try.und4 : Try.prog.underlying 4 = some .bool := by kernel_rfl
theorem Try.cells3 : Try.prog.cellsOf 3 = 1 := by kernel_rfl

theorem below_of_keep {w w' : World} (h : Keep ⟨w, noX, fun _ => none⟩ w') : Below w.heap.size w w' :=
  ⟨h.os, h.tape, h.output, h.size, fun k hk => h.block k hk (fun h => h)⟩

/-- a []int that came in, as borrowed data -/
theorem ints_in {H : Type} {enc : TypeId × Value → H} {W : World} {v : Value} {d : DataW H} {ps : List MemPlace} (h : DataW.Trod enc Try.prog W 0 (fun _ => true) true 24 v d ps) (hag : ∀ c, v ≠ .agg c) : ∃ l : List Int, Bor W noX v 1 (ints l) := by
  obtain ⟨n, hn⟩ := h
  rcases open_ints Try.und24 Try.und3 Try.cells3 hn with ⟨hcs, _⟩ | ⟨a, len, cap, zs, hcs, _, hl, hm, hz, _, hcell, _⟩
  · have hv : v = .slice none 0 0 := by
      cases v <;> first | (rename_i c; exact absurd rfl (hag c)) | (simp [Value.cells] at hcs <;> simp_all)
    subst hv
    exact ⟨[], .mk none 0 1 [] 0 0 (fun _ _ => undef) (by simp) (fun i e h => by simp at h) (.inl rfl) (fun i e j t h => by simp at h) (fun i e j t h => by simp at h)⟩
  · have hv : v = .slice (some a) len cap := by
      cases v <;> first | (rename_i c; exact absurd rfl (hag c)) | (simp [Value.cells] at hcs <;> simp_all)
    subst hv
    simp only [if_true] at hz
    refine ⟨zs.take len, ?_⟩
    have hlen : (ints (zs.take len)).length = len := by rw [ints_length]; simp; omega
    by_cases h0 : len = 0
    · subst h0
      simp only [List.take_zero]
      exact .mk (some a) cap 1 [] 0 0 (fun _ _ => undef) (by simp) (fun i e h => by simp at h) (.inl rfl) (fun i e j t h => by simp at h) (fun i e j t h => by simp at h)
    · obtain ⟨b, off, spot⟩ := a
      have hspot : spot = none := by simpa [Addr.add] using World.cell?_spot (hcell 0 (by omega))
      subst hspot
      have hg : ∀ (i : Nat) (e : List T), (ints (zs.take len))[i]? = some e → i < len ∧ e = [.v (vi (zs.getD i 0))] := by
        intro i e hi
        have hil := (List.getElem?_eq_some_iff.1 hi).1
        rw [hlen] at hil
        rw [ints_get, List.getElem?_take_of_lt hil] at hi
        refine ⟨hil, ?_⟩
        rw [List.getElem?_eq_getElem (by omega)] at hi
        simp only [Option.map_some, Option.some.injEq] at hi
        rw [← hi, List.getD_eq_getElem?_getD, List.getElem?_eq_getElem (by omega)]
        rfl
      have := Bor.mk (w := W) (X := noX) (some ⟨b, off, none⟩) cap 1 (ints (zs.take len)) b off (fun i _ => vi (zs.getD i 0)) (by omega) (fun i e hi => by rw [(hg i e hi).2]; rfl) (.inr ⟨rfl, fun h => h⟩) (fun i e j t hi hj => ?_) (fun i e j t hi hj => ?_)
      · rw [hlen] at this; exact this
      · obtain ⟨h1, rfl⟩ := hg i e hi
        have hj0 : j = 0 := by have := (List.getElem?_eq_some_iff.1 hj).1; simpa using this
        subst hj0
        have := hcell i (by omega)
        rw [addr_add] at this
        simpa using this
      · obtain ⟨h1, rfl⟩ := hg i e hi
        have hj0 : j = 0 := by have := (List.getElem?_eq_some_iff.1 hj).1; simpa using this
        subst hj0
        simp at hj
        subst hj
        exact .v _

theorem heap_none {cx : Cx} {H : Heap} {w : World} (h : ∀ i, H i = none) : HeapOK cx H w :=
  ⟨fun i r p sz es hi => by rw [h] at hi; simp at hi, fun i p sz es g i' p' sz' es' g' ⟨r, hi, _⟩ => by rw [h] at hi; simp at hi, fun i p sz es g ⟨r, hi, _⟩ => by rw [h] at hi; simp at hi⟩

/-- a contract's call from a start's arguments -/
theorem fn_ints {f : Nat} {l : List Int} {v : Value} {W : World} {b : Bool} (hf : Abs.Fn Try.prog f [.c (.s false 1 (ints l))] [.c .d] [.c (.v (.bool b))]) (hb : Bor W noX v 1 (ints l)) :
    Calls Try.prog f #[v] W fun e W' => e = .returned (.bool b) ∧ Below W.heap.size W W' := by
  obtain ⟨_, _, _, h⟩ := hf
  refine Calls.mono (h W noX #[v] (fun _ _ => ⟨0, 0, 0⟩) rfl ?_ (heap_none fun i => ?_)) ?_
  · intro t vv ht
    cases t with
    | zero =>
      simp only [entrySt, List.getElem?_cons_zero, X.v.injEq] at ht
      subst ht
      exact .c _ _ (.b _ _ _ hb)
    | succ t => simp [entrySt] at ht
  · cases i with
    | inr x => rfl
    | inl k =>
      obtain ⟨n, j⟩ := k
      simp only [HeapOf, entrySt, cellOf]
      cases n with
      | zero => cases j <;> simp [A.ts]
      | succ n => simp
  · rintro e W' ⟨r, Hd', rfl, _, hk, hr, _⟩
    refine ⟨?_, below_of_keep hk⟩
    have : r = .bool b := hr
    rw [this]

set_option maxRecDepth 100000 in
theorem f_lifted4 (os : Os) (started : os.Started) (H : Type) (enc : TypeId × Value → H) :
    ReturnsInHanded {} Try.checked os 4 .any (Rows.fnExactAreSidesSpec.pre6 enc Try.prog Try.f4 Rows.fnExactAreSidesRow.domain false) (Rows.fnExactAreSidesSpec.post enc Try.prog Try.f4 false true false false) := by
  refine returnsInHanded_of_change (C := Try.checked) Try.own started (by kernel_rfl) Try.func4
    (ChangeSpec.witness6 (enc := enc) (C := Try.checked) false ⟨#[], #[.slice none 0 0], []⟩ 8 (by kernel_rfl) (by kernel_rfl) (by kernel_rfl) (by kernel_rfl)) ?_
  intro W base args ds gs before hval0 hW hcnd _
  have hval : ∀ (j : Nat) t v, Try.f4.params[j]? = some t → args[j]? = some v → Value.okWide Try.prog W .any base t v := hval0
  have hW' := hW
  obtain ⟨p, q, hA0, hV, rfl, hfz, hnd⟩ := hW
  have hA : DataW.TrodAll enc Try.prog W 0 (fun _ => true) true Try.f4.params.toList args.toList ds p := hA0
  rw [Try.params4] at hA hval
  obtain ⟨v0, d0, rfl, rfl, h0⟩ := trodAll_one hA
  obtain ⟨rfl, rfl⟩ := trodVars_none hV
  obtain ⟨l, hb⟩ := ints_in h0 (fun c hc => by
    subst hc
    have := hval 0 24 _ rfl rfl
    simp [Value.okWide, Cell.okWide, Cell.ok] at this)
  have hlt : ∀ x ∈ p, x.block < W.heap.size := fun x hx => hW'.lt x (by simpa using hx)
  refine (fn_ints (law4 l) hb).mono fun e W' ⟨he, bel⟩ => ?_
  subst he
  refine ⟨_, rfl, [d0], [], p ++ [], [], p, [], hW', ?_, trodAll_mk1 (Below.trod Try.laidOut (by kernel_rfl) (of_decide_eq_true (by kernel_rfl)) h0 bel hlt), rfl, bel.frame _, fun h => by cases h⟩
  exact trodAll_mk1 (shut_bool Try.und4 true)

theorem AreSides_holds : Rows.FnExactAreSidesSaid :=
  OpenClaim.holds_of_wide 4 Try.f4 rfl rfl rfl rfl rfl rfl rfl ⟨rfl, rfl, rfl, rfl, rfl⟩ rfl rfl rfl rfl rfl (by kernel_rfl) Try.func4 (by kernel_rfl)
    (of_decide_eq_true (by kernel_rfl)) (by unfold Func.isWrapper; first | (rw [if_pos (by decide +kernel)]; kernel_rfl) | (rw [if_neg (by decide +kernel)]; exact ⟨rfl, rfl⟩))
    (fun os started H enc _ => f_lifted4 os started H enc)
#print axioms AreSides_holds
end Go.Proofs.Ytolmelplkiefjaa

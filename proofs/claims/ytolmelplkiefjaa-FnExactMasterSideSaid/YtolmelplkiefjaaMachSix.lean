/- A small abstract machine over the kit's wp, part of it: states of slots and owned rows, and what each operation does to them. No condition. -/
import Derived.Test.YtolmelplkiefjaaMachFive
set_option linter.unusedVariables false
set_option linter.unusedSimpArgs false
set_option linter.constructorNameAsVariable false
namespace Go.Abs.E
open Go Go.Abs

/-- what a loop does not change -/
def memN (t : Nat) : List Nat → Bool
  | [] => false
  | x :: xs => if t = x then true else memN t xs
theorem memN_nil {t : Nat} : memN t [] = false := rfl
theorem memN_cons {t x : Nat} {xs : List Nat} : memN t (x :: xs) = if t = x then true else memN t xs := rfl
def memK (d j : Nat) : List (Nat × Nat) → Bool
  | [] => false
  | (d', j') :: xs => if d = d' then (if j = j' then true else memK d j xs) else memK d j xs
theorem memK_nil {d j : Nat} : memK d j [] = false := rfl
theorem memK_cons {d j d' j' : Nat} {xs : List (Nat × Nat)} : memK d j ((d', j') :: xs) = if d = d' then (if j = j' then true else memK d j xs) else memK d j xs := rfl
def keepL (ms : List Nat) (ks : List (Nat × Nat)) : Ws → Ws
  | [] => []
  | (.s t, x) :: L => if memN t ms = true then (.s t, x) :: keepL ms ks L else keepL ms ks L
  | (.k (d, j), x) :: L => if memK d j ks = true then keepL ms ks L else (.k (d, j), x) :: keepL ms ks L
theorem keepL_nil {ms : List Nat} {ks : List (Nat × Nat)} : keepL ms ks [] = [] := rfl
theorem keepL_s {ms : List Nat} {ks : List (Nat × Nat)} {t : Nat} {x : X} {L : Ws} : keepL ms ks ((.s t, x) :: L) = if memN t ms = true then (.s t, x) :: keepL ms ks L else keepL ms ks L := rfl
theorem keepL_k {ms : List Nat} {ks : List (Nat × Nat)} {d j : Nat} {x : X} {L : Ws} : keepL ms ks ((.k (d, j), x) :: L) = if memK d j ks = true then keepL ms ks L else (.k (d, j), x) :: keepL ms ks L := rfl
/-- a code's first region, by its number -/
def rid : Code → Nat
  | .region id _ _ => id
  | .seq a _ => rid a
  | .block _ b => rid b
  | .loop b => rid b
  | _ => 0

def S1 (L M : Ws) (_h : Hold L) : Prop := Sub1 (ofL L) M
theorem S1_nil {L : Ws} : S1 L [] () = True := rfl
theorem S1_cons {L M : Ws} {l : Loc} {x : X} : S1 L ((l, x) :: M) () = (ofL L l = x ∧ S1 L M ()) := rfl
def SK (np : Nat) (L M : Ws) (_h : Hold (np, L, M)) : Prop := subKeys np L M = true
theorem SK.mk {np : Nat} {L M : Ws} (h : subKeys np L M = true) : SK np L M () := h
theorem sb_eq {np : Nat} {L M : Ws} : SB np M L = (S1 L M () ∧ SK np L M ()) := rfl

variable {P : Program} {md : Nat → Nat → Bool} {wr : Bool} {n np : Nat}
/-- A LOOP: U names what changes -/
theorem loopU {ι : Type} {c : Code} {L : Ws} {K : KX} (r : Nat) (hr : rid c = r) (U : ι → Ws) (ms : List Nat) (ks : List (Nat × Nat)) (meas : ι → Nat) (ok : ι → Prop) (hmix : P.follows .mixedOrders = true) (hd : dstsOK n c = true) (i0 : ι) (h0 : ok i0) (hs : SB np (U i0 ++ keepL ms ks L) L)
    (round : ∀ i, ok i → EV P md wr n np c (U i ++ keepL ms ks L) (fun e L' => LP (fun L' => ∃ j, meas j < meas i ∧ ok j ∧ SB np (U j ++ keepL ms ks L) L') K e L' ()) ()) : EV P md wr n np (.loop c) L K () :=
  loop (fun i => U i ++ keepL ms ks L) meas ok hmix hd i0 h0 hs round


end Go.Abs.E

namespace Go.Abs.E
open Go Go.Abs

/-! Roots under other names; what is nil as an empty root. -/
def renK (σ : List (K × K)) (k : K) : K := match σ with
  | [] => k
  | (a, c) :: σ => if k.1 = a.1 then (if k.2 = a.2 then c else renK σ k) else renK σ k
theorem renK_nil {k : K} : renK [] k = k := rfl
theorem renK_cons {a b d j : Nat} {c : K} {σ : List (K × K)} : renK (((a, b), c) :: σ) (d, j) = if d = a then (if j = b then c else renK σ (d, j)) else renK σ (d, j) := rfl

def CR (σ : List (K × K)) (nw : List K) (c c' : C) : Prop := match c with
  | .r (d, j) ver p off len => if memK d j nw = true then (c' = .n ∧ ver = 0 ∧ p = [] ∧ off = 0 ∧ len = 0) else c' = .r (renK σ (d, j)) ver p off len
  | c => c' = c
def CRs (σ : List (K × K)) (nw : List K) : List C → List C → Prop
  | [], [] => True
  | c :: cs, c' :: cs' => CR σ nw c c' ∧ CRs σ nw cs cs'
  | _, _ => False
def VR (σ : List (K × K)) (nw : List K) (v v' : V) : Prop := match v with
  | .c c => (match v' with
    | .c c' => CR σ nw c c'
    | _ => False)
  | .a cs => (match v' with
    | .a cs' => CRs σ nw cs cs'
    | _ => False)
  | .p (d, j) ver p i off => memK d j nw = false ∧ v' = .p (renK σ (d, j)) ver p i off
  | .t vs => keysVs vs = [] ∧ v' = .t vs
  | .f fn caps => keysVs caps = [] ∧ v' = .f fn caps
  | v => v' = v

structure SR (σ : List (K × K)) (nw : List K) (np : Nat) (M : Ws) (st : St) : Prop where
  s : ∀ t x, (.s t, x) ∈ M → ∃ v v', x = .v v ∧ st (.s t) = .v v' ∧ VR σ nw v v'
  k : ∀ d j x, (.k (d, j), x) ∈ M → if memK d j nw = true then ∃ ver sz, x = .e ⟨ver, sz, []⟩ else st (.k (renK σ (d, j))) = x
  named : ∀ l x, (l, x) ∈ M → ∀ k, k ∈ x.keys → (ovl M (.k k)).isSome = true
  args : ∀ k : K, k.1 < np → st (.k k) ≠ .none → (ovl M (.k k)).isSome = true
  old : ∀ k : K, k.1 < np → (ovl M (.k k)).isSome = true → memK k.1 k.2 nw = false ∧ renK σ k = k
  inj : ∀ k k' : K, (ovl M (.k k)).isSome = true → (ovl M (.k k')).isSome = true → memK k.1 k.2 nw = false → memK k'.1 k'.2 nw = false → renK σ k = renK σ k' → k = k'

def renH (σ : List (K × K)) (nw : List K) (Hd : K → Path → Hdr) : K → Path → Hdr := fun k => if memK k.1 k.2 nw = true then fun _ => ⟨0, 0, 0⟩ else Hd (renK σ k)

section
variable {σ : List (K × K)} {nw : List K} {np n : Nat} {M : Ws} {st : St} {cx : Cx} {Hd : K → Path → Hdr}

theorem SR.at_old (h : SR σ nw np M st) {k : K} (hk : (ovl M (.k k)).isSome = true) (hn : memK k.1 k.2 nw = false) : ofL M (.k k) = st (.k (renK σ k)) := by
  obtain ⟨y, hy⟩ := Option.isSome_iff_exists.1 hk
  rw [ofL_eq, hy, Option.getD_some]
  obtain ⟨d, j⟩ := k
  have := h.k d j y (ovl_mem hy)
  try simp only [] at hn
  rw [if_neg (by simp [hn])] at this
  exact this.symm
theorem SR.at_new (h : SR σ nw np M st) {k : K} (hk : (ovl M (.k k)).isSome = true) (hn : memK k.1 k.2 nw = true) : ∃ ver sz, ofL M (.k k) = .e ⟨ver, sz, []⟩ := by
  obtain ⟨y, hy⟩ := Option.isSome_iff_exists.1 hk
  rw [ofL_eq, hy, Option.getD_some]
  obtain ⟨d, j⟩ := k
  have := h.k d j y (ovl_mem hy)
  try simp only [] at hn
  rw [if_pos hn] at this
  obtain ⟨ver, sz, rfl⟩ := this
  exact ⟨ver, sz, rfl⟩

theorem COK.ren (h : SR σ nw np M st) {c c' : C} {y : Value} (hv : COK cx st Hd c' y) (hr : CR σ nw c c') (hk : ∀ k, k ∈ c.keys → (ovl M (.k k)).isSome = true) : COK cx (ofL M) (renH σ nw Hd) c y := by
  cases c with
  | r k ver p off len =>
    obtain ⟨d, j⟩ := k
    have hin := hk (d, j) (by simp [C.keys])
    simp only [CR] at hr
    split at hr
    · rename_i hm
      obtain ⟨rfl, rfl, rfl, rfl, rfl⟩ := hr
      cases hv
      obtain ⟨ver, sz, he⟩ := h.at_new hin hm
      refine .r _ _ _ _ _ _ _ ⟨by rw [he]; simp, fun _ _ => Nat.zero_le _⟩ (Nat.le_refl _) fun sz es g hvl => ⟨Nat.zero_le _, fun h0 => absurd rfl h0⟩
    · rename_i hm
      have hm' : memK d j nw = false := by simpa using hm
      subst hr
      have hat := h.at_old hin hm'
      cases hv with
      | r _ _ _ _ _ a cap hkn hl hv1 =>
        refine .r _ _ _ _ _ _ _ ?_ hl fun sz es g hvl => hv1 sz es g ?_
        · simp only [known, hat]; exact hkn
        · simp only [valid, hat, renH, hm', if_neg Bool.false_ne_true] at hvl; exact hvl
  | v x => simp only [CR] at hr; subst hr; cases hv; exact .v _
  | b sz es => simp only [CR] at hr; subst hr; cases hv with | b _ _ _ hb => exact .b _ _ _ hb
  | n => simp only [CR] at hr; subst hr; cases hv; exact .n
  | u => simp only [CR] at hr; subst hr; exact .u _

theorem CRs_len : ∀ {cs cs' : List C}, CRs σ nw cs cs' → cs.length = cs'.length
  | [], [], _ => rfl
  | [], _ :: _, h => h.elim
  | _ :: _, [], h => h.elim
  | c :: cs, c' :: cs', h => by simp [CRs_len h.2]
theorem CRs_get : ∀ {cs cs' : List C}, CRs σ nw cs cs' → ∀ {i : Nat} {c : C}, cs[i]? = some c → ∃ c', cs'[i]? = some c' ∧ CR σ nw c c'
  | [], [], _, i, c, h => by simp at h
  | [], _ :: _, h, _, _, _ => h.elim
  | _ :: _, [], h, _, _, _ => h.elim
  | c :: cs, c' :: cs', h, 0, x, hx => ⟨c', rfl, by obtain rfl := Option.some.inj hx; exact h.1⟩
  | c :: cs, c' :: cs', h, i + 1, x, hx => by
    simp only [List.getElem?_cons_succ] at hx ⊢
    exact CRs_get h.2 hx

theorem VOK.ren (h : SR σ nw np M st) {v v' : V} {y : Value} (hv : VOK cx st Hd v' y) (hr : VR σ nw v v') (hk : ∀ k, k ∈ v.keys → (ovl M (.k k)).isSome = true) : VOK cx (ofL M) (renH σ nw Hd) v y := by
  cases v with
  | c c =>
    simp only [VR] at hr
    split at hr
    · cases hv with | c _ _ hc => exact .c _ _ (COK.ren h hc hr hk)
    · exact hr.elim
  | a cs =>
    simp only [VR] at hr
    split at hr
    · cases hv with | a _ ys hl hc =>
      refine .a _ _ (by rw [hl, CRs_len hr]) fun i c y h1 h2 => ?_
      obtain ⟨c', h3, h4⟩ := CRs_get hr h1
      exact COK.ren h (hc i c' y h3 h2) h4 fun k hk' => hk k (keysCs_mem h1 hk')
    · exact hr.elim
  | p k ver p i off =>
    obtain ⟨d, j⟩ := k
    obtain ⟨hm, rfl⟩ := hr
    have hat := h.at_old (hk (d, j) (by simp [V.keys])) hm
    cases hv with
    | p _ _ _ _ _ a hkn hv1 =>
      refine .p _ _ _ _ _ _ ?_ fun sz es g hvl => hv1 sz es g ?_
      · simp only [known, hat]; exact hkn
      · simp only [valid, hat, renH, hm, if_neg Bool.false_ne_true] at hvl; exact hvl
  | q sz es i off =>
    simp only [VR] at hr
    subst hr
    cases hv with | q _ _ _ _ b o cap hb hi => exact .q _ _ _ _ _ _ _ hb hi
  | t vs =>
    obtain ⟨h0, rfl⟩ := hr
    cases hv with
    | t _ ys hl hc =>
      refine .t _ _ hl fun i v y h1 h2 => ?_
      have hvk : v.keys = [] := by
        apply List.eq_nil_iff_forall_not_mem.2
        intro k hk'
        have := keysVs_mem h1 hk'
        rw [h0] at this
        simp at this
      exact (nokey (hc i v y h1 h2) hvk)
  | f fn caps =>
    obtain ⟨h0, rfl⟩ := hr
    cases hv with
    | f _ _ ys hl hc =>
      refine .f _ _ _ hl fun i v y h1 h2 => ?_
      have hvk : v.keys = [] := by
        apply List.eq_nil_iff_forall_not_mem.2
        intro k hk'
        have := keysVs_mem h1 hk'
        rw [h0] at this
        simp at this
      exact (nokey (hc i v y h1 h2) hvk)
  | u => simp only [VR] at hr; subst hr; cases hv; exact .u
where
  nokey {v : V} {y : Value} {st' : St} {Hd' : K → Path → Hdr} (hv : VOK cx st Hd v y) (h0 : v.keys = []) : VOK cx st' Hd' v y := by
    induction hv with
    | c c y hc =>
      cases hc with
      | r k ver p off len a cap _ _ _ => simp [V.keys, C.keys] at h0
      | v x => exact .c _ _ (.v _)
      | b y sz es hb => exact .c _ _ (.b _ _ _ hb)
      | n => exact .c _ _ .n
      | u y => exact .c _ _ (.u _)
    | a cs ys hl hc =>
      refine .a _ _ hl fun i c y h1 h2 => ?_
      have hck : c.keys = [] := by
        apply List.eq_nil_iff_forall_not_mem.2
        intro k hk'
        have := keysCs_mem h1 hk'
        simp only [V.keys] at h0
        rw [h0] at this
        simp at this
      cases hc i c y h1 h2 with
      | r k ver p off len a cap _ _ _ => simp [C.keys] at hck
      | v x => exact .v _
      | b y sz es hb => exact .b _ _ _ hb
      | n => exact .n
      | u y => exact .u _
    | p k ver p i off a hkn hv1 => simp [V.keys] at h0
    | q sz es i off b o cap hb hi => exact .q _ _ _ _ _ _ _ hb hi
    | t vs ys hl hc ih =>
      refine .t _ _ hl fun i v y h1 h2 => ih i v y h1 h2 ?_
      apply List.eq_nil_iff_forall_not_mem.2
      intro k hk'
      have := keysVs_mem h1 hk'
      simp only [V.keys] at h0
      rw [h0] at this
      simp at this
    | f fn caps ys hl hc ih =>
      refine .f _ _ _ hl fun i v y h1 h2 => ih i v y h1 h2 ?_
      apply List.eq_nil_iff_forall_not_mem.2
      intro k hk'
      have := keysVs_mem h1 hk'
      simp only [V.keys] at h0
      rw [h0] at this
      simp at this
    | u => exact .u

theorem Rel.ren (h : SR σ nw np M st) {a : Act} {w : World} (h0 : ∀ k g, cx.H0 k = some g → k.1 < np) (hr : Rel cx n st Hd a w) : Rel cx n (ofL M) (renH σ nw Hd) a w := by
  have hsome : ∀ (k : K) (x : X), ofL M (.k k) = x → x ≠ .none → (ovl M (.k k)).isSome = true := by
    intro k x hx hne
    rw [ofL_eq] at hx
    cases ho : ovl M (.k k) with
    | none => rw [ho] at hx; exact absurd hx.symm hne
    | some y => rfl
  -- a row of the smaller state
  have hrow : ∀ {i : Ix} {r : HRow}, HeapOf (ofL M) (renH σ nw Hd) i = some r → ∃ k : K, i = .inl k ∧ (ovl M (.k k)).isSome = true ∧ ((memK k.1 k.2 nw = true ∧ r.es = [] ∧ r.hd = fun _ => ⟨0, 0, 0⟩) ∨ (memK k.1 k.2 nw = false ∧ HeapOf st Hd (.inl (renK σ k)) = some r)) := by
    intro i r hir
    cases i with
    | inr x => simp [HeapOf] at hir
    | inl k =>
      simp only [HeapOf] at hir
      cases hx : ofL M (.k k) with
      | e e =>
        have hin := hsome k _ hx (by simp)
        refine ⟨k, rfl, hin, ?_⟩
        rw [hx] at hir
        obtain rfl := Option.some.inj hir
        cases hm : memK k.1 k.2 nw with
        | true =>
          obtain ⟨ver, sz, he⟩ := h.at_new hin hm
          rw [hx] at he
          obtain rfl := X.e.inj he
          exact .inl ⟨rfl, rfl, by simp [renH, hm]⟩
        | false =>
          have hat := h.at_old hin hm
          rw [hx] at hat
          exact .inr ⟨rfl, by simp only [HeapOf, ← hat, renH, hm, if_neg Bool.false_ne_true]⟩
      | v v => rw [hx] at hir; simp at hir
      | gone => rw [hx] at hir; simp at hir
      | none => rw [hx] at hir; simp at hir
  have hplace : ∀ {i : Ix} {p : Path} {sz : Nat} {es : List (List T)} {g : Hdr}, Heap.at (HeapOf (ofL M) (renH σ nw Hd)) i p sz es g → g.cap ≠ 0 → ∃ k : K, i = .inl k ∧ (ovl M (.k k)).isSome = true ∧ memK k.1 k.2 nw = false ∧ Heap.at (HeapOf st Hd) (.inl (renK σ k)) p sz es g := by
    rintro i p sz es g ⟨r, hir, hrr, hh⟩ hc
    obtain ⟨k, rfl, hin, h1 | h1⟩ := hrow hir
    · rw [h1.2.2] at hh
      subst hh
      exact absurd rfl hc
    · exact ⟨k, rfl, hin, h1.1, r, h1.2, hrr, hh⟩
  refine ⟨hr.defers, hr.size, fun t v hv => ?_, ⟨fun i r p sz es hir hrr => ?_, ?_, ?_⟩, hr.keep, fun k hh hk => ?_⟩
  · rw [ofL_eq] at hv
    cases ho : ovl M (.s t) with
    | none => rw [ho] at hv; simp at hv
    | some y =>
      rw [ho] at hv
      simp only [Option.getD_some] at hv
      subst hv
      obtain ⟨v1, v', h1, h2, h3⟩ := h.s t _ (ovl_mem ho)
      obtain rfl := X.v.inj h1
      obtain ⟨q1, q2⟩ := hr.slots t v' h2
      exact ⟨q1, VOK.ren h q2 h3 fun k hk => h.named _ _ (ovl_mem ho) k hk⟩
  · obtain ⟨k, rfl, hin, h1 | h1⟩ := hrow hir
    · obtain ⟨_, h2, h3⟩ := h1
      rw [h2] at hrr
      cases p with
      | nil =>
        simp only [rowAt, Option.some.injEq, Prod.mk.injEq] at hrr
        obtain ⟨rfl, rfl⟩ := hrr
        rw [h3]
        exact ⟨Nat.le_refl _, fun hc => absurd rfl hc⟩
      | cons x p => obtain ⟨i, j⟩ := x; simp [rowAt, cellAt] at hrr
    · exact hr.heap.rows _ r p sz es h1.2 hrr
  · intro i p sz es g i' p' sz' es' g' h1 h2 hc hc' hb
    obtain ⟨k, rfl, hin, hm, h3⟩ := hplace h1 hc
    obtain ⟨k', rfl, hin', hm', h4⟩ := hplace h2 hc'
    obtain ⟨e1, e2⟩ := hr.heap.inj _ _ _ _ _ _ _ _ _ _ h3 h4 hc hc' hb
    exact ⟨congrArg Sum.inl (h.inj k k' hin hin' hm hm' (Sum.inl.inj e1)), e2⟩
  · intro i p sz es g h1 hc
    obtain ⟨k, rfl, hin, hm, h3⟩ := hplace h1 hc
    exact hr.heap.blk _ _ _ _ _ h3 hc
  · obtain ⟨q1, q2⟩ := hr.hdr k hh hk
    have hlt := h0 k hh hk
    have hin := h.args k hlt q1
    obtain ⟨hm, hre⟩ := h.old k hlt hin
    have hat := h.at_old hin hm
    rw [hre] at hat
    rw [hat]
    refine ⟨q1, fun e he => ?_⟩
    simp only [renH, hm, if_neg Bool.false_ne_true, hre]
    exact q2 e he

theorem AW.ren {P : Program} {c : Code} {QA : Exit → St → Prop} (h : SR σ nw np M st) (hc : AW P n np c (ofL M) QA) : AW P n np c st QA :=
  fun cx Hd a w h0 hr => hc cx (renH σ nw Hd) a w h0 (Rel.ren h h0 hr)
end

/-! looked at entry by entry -/
def S2 (σ : List (K × K)) (nw : List K) (L : Ws) : Ws → Prop
  | [] => True
  | (.s t, x) :: M => (∃ v v', x = .v v ∧ ofL L (.s t) = .v v' ∧ VR σ nw v v') ∧ S2 σ nw L M
  | (.k (d, j), x) :: M => (if memK d j nw = true then ∃ ver sz, x = .e ⟨ver, sz, []⟩ else ofL L (.k (renK σ (d, j))) = x) ∧ S2 σ nw L M
def keysOf : Ws → List K
  | [] => []
  | (.k k, _) :: M => k :: keysOf M
  | _ :: M => keysOf M
def eqK (a b : K) : Bool := Nat.beq a.1 b.1 && Nat.beq a.2 b.2
def injOK (σ : List (K × K)) : List K → Bool
  | [] => true
  | k :: ks => ks.all (fun k' => eqK k k' || !eqK (renK σ k) (renK σ k')) && injOK σ ks
def renOK (σ : List (K × K)) (nw : List K) (np : Nat) (L M : Ws) : Bool :=
  subKeys np L M && (keysOf M).all (fun k => !Nat.blt k.1 np || (!memK k.1 k.2 nw && eqK (renK σ k) k)) && injOK σ ((keysOf M).filter fun k => !memK k.1 k.2 nw)

theorem eqK_eq {a b : K} (h : eqK a b = true) : a = b := by
  simp only [eqK, Bool.and_eq_true] at h
  exact Prod.ext (Nat.eq_of_beq_eq_true h.1) (Nat.eq_of_beq_eq_true h.2)
theorem eqK_self (a : K) : eqK a a = true := by simp [eqK]
theorem keysOf_mem : ∀ {M : Ws} {k : K}, (ovl M (.k k)).isSome = true → k ∈ keysOf M
  | [], k, h => by simp [ovl] at h
  | (.s t, x) :: M, k, h => by
    simp only [ovl, reduceCtorEq, if_false] at h
    exact keysOf_mem (M := M) h
  | (.k k', x) :: M, k, h => by
    simp only [keysOf]
    by_cases e : k = k'
    · subst e; exact List.mem_cons_self ..
    · refine List.mem_cons_of_mem _ (keysOf_mem (M := M) ?_)
      simpa only [ovl, Loc.k.injEq, e, if_false] using h
theorem injOK_inj {σ : List (K × K)} : ∀ {ks : List K}, injOK σ ks = true → ∀ {k k' : K}, k ∈ ks → k' ∈ ks → renK σ k = renK σ k' → k = k'
  | [], _, k, k', h, _, _ => by simp at h
  | x :: ks, hi, k, k', h1, h2, he => by
    simp only [injOK, Bool.and_eq_true] at hi
    rcases List.mem_cons.1 h1 with e1 | m1 <;> rcases List.mem_cons.1 h2 with e2 | m2
    · rw [e1, e2]
    · subst e1
      have := List.all_eq_true.1 hi.1 _ m2
      simp only [Bool.or_eq_true, Bool.not_eq_true', he, eqK_self, Bool.true_eq_false, or_false] at this
      exact eqK_eq this
    · subst e2
      have := List.all_eq_true.1 hi.1 _ m1
      simp only [Bool.or_eq_true, Bool.not_eq_true', ← he, eqK_self, Bool.true_eq_false, or_false] at this
      exact (eqK_eq this).symm
    · exact injOK_inj hi.2 m1 m2 he

theorem S2_mem {σ : List (K × K)} {nw : List K} {L : Ws} : ∀ {M : Ws}, S2 σ nw L M → (∀ t x, (.s t, x) ∈ M → ∃ v v', x = .v v ∧ ofL L (.s t) = .v v' ∧ VR σ nw v v') ∧ ∀ d j x, (.k (d, j), x) ∈ M → if memK d j nw = true then ∃ ver sz, x = .e ⟨ver, sz, []⟩ else ofL L (.k (renK σ (d, j))) = x
  | [], h => ⟨fun _ _ h => by simp at h, fun _ _ _ h => by simp at h⟩
  | (.s t, x) :: M, h => by
    have ih := S2_mem h.2
    refine ⟨fun t' x' hm => ?_, fun d j x' hm => ?_⟩
    · rcases List.mem_cons.1 hm with e | hm
      · obtain ⟨rfl, rfl⟩ : t' = t ∧ x' = x := by simpa using e
        exact h.1
      · exact ih.1 t' x' hm
    · rcases List.mem_cons.1 hm with e | hm
      · simp at e
      · exact ih.2 d j x' hm
  | (.k (d', j'), x) :: M, h => by
    have ih := S2_mem h.2
    refine ⟨fun t' x' hm => ?_, fun d j x' hm => ?_⟩
    · rcases List.mem_cons.1 hm with e | hm
      · simp at e
      · exact ih.1 t' x' hm
    · rcases List.mem_cons.1 hm with e | hm
      · obtain ⟨⟨rfl, rfl⟩, rfl⟩ : (d = d' ∧ j = j') ∧ x' = x := by simpa using e
        exact h.1
      · exact ih.2 d j x' hm

theorem SR.of {σ : List (K × K)} {nw : List K} {np : Nat} {L M : Ws} (h1 : S2 σ nw L M) (h2 : renOK σ nw np L M = true) : SR σ nw np M (ofL L) := by
  simp only [renOK, Bool.and_eq_true] at h2
  obtain ⟨⟨h2, h3⟩, h4⟩ := h2
  simp only [subKeys, Bool.and_eq_true] at h2
  obtain ⟨q1, q2⟩ := S2_mem h1
  refine ⟨q1, q2, fun l x hm k hk => List.all_eq_true.1 (List.all_eq_true.1 h2.1 _ hm) k hk, fun k hk hne => ?_, fun k hk hin => ?_, fun k k' hin hin' hm hm' he => ?_⟩
  · rw [ofL_eq] at hne
    cases ho : ovl L (.k k) with
    | none => rw [ho] at hne; exact absurd rfl hne
    | some y =>
      have := List.all_eq_true.1 h2.2 _ (ovl_mem ho)
      have hb : Nat.blt k.1 np = true := by rw [Nat.blt_eq]; exact hk
      simpa [hb] using this
  · have := List.all_eq_true.1 h3 k (keysOf_mem hin)
    have hb : Nat.blt k.1 np = true := by rw [Nat.blt_eq]; exact hk
    simp only [hb, Bool.not_true, Bool.false_or, Bool.and_eq_true, Bool.not_eq_true'] at this
    exact ⟨this.1, eqK_eq this.2⟩
  · refine injOK_inj h4 (List.mem_filter.2 ⟨keysOf_mem hin, by simp [hm]⟩) (List.mem_filter.2 ⟨keysOf_mem hin', by simp [hm']⟩) he

end Go.Abs.E

namespace Go.Abs.E
open Go Go.Abs

def S3 (σ : List (K × K)) (nw : List K) (L M : Ws) (_h : Hold (σ, nw, L)) : Prop := S2 σ nw L M
def RK (σ : List (K × K)) (nw : List K) (np : Nat) (L M : Ws) (_h : Hold (σ, nw, np, L, M)) : Prop := renOK σ nw np L M = true
def SBR (σ : List (K × K)) (nw : List K) (np : Nat) (M L : Ws) (_h : Hold (σ, nw, np)) : Prop := S2 σ nw L M ∧ renOK σ nw np L M = true
theorem RK.mk {σ : List (K × K)} {nw : List K} {np : Nat} {L M : Ws} (h : renOK σ nw np L M = true) : RK σ nw np L M () := h

section
variable {σ : List (K × K)} {nw : List K} {np : Nat} {L M : Ws}
theorem sbr_eq : SBR σ nw np M L () = (S3 σ nw L M () ∧ RK σ nw np L M ()) := rfl
theorem s3_nil : S3 σ nw L [] () = True := rfl
theorem s3_s {t : Nat} {v : V} : S3 σ nw L ((.s t, .v v) :: M) () = (GV (ofL L (.s t)) (fun v' => VR σ nw v v') () ∧ S3 σ nw L M ()) := by
  apply propext
  simp only [S3, S2, GV, Go.Abs.GV]
  constructor
  · rintro ⟨⟨v1, v', h0, h1, h2⟩, h3⟩
    obtain rfl := X.v.inj h0
    rw [h1]; exact ⟨h2, h3⟩
  · rintro ⟨h1, h3⟩
    refine ⟨?_, h3⟩
    split at h1
    · rename_i v' hv; exact ⟨_, v', rfl, hv, h1⟩
    · exact h1.elim
theorem s3_k {d j : Nat} {x : X} : S3 σ nw L ((.k (d, j), x) :: M) () = ((if memK d j nw = true then ∃ ver sz, x = .e ⟨ver, sz, []⟩ else ofL L (.k (renK σ (d, j))) = x) ∧ S3 σ nw L M ()) := rfl
theorem vr_c {c c' : C} : VR σ nw (.c c) (.c c') = CR σ nw c c' := rfl
theorem vr_a {cs cs' : List C} : VR σ nw (.a cs) (.a cs') = CRs σ nw cs cs' := rfl
theorem vr_p {d j ver i off : Nat} {p : Path} {v' : V} : VR σ nw (.p (d, j) ver p i off) v' = (memK d j nw = false ∧ v' = .p (renK σ (d, j)) ver p i off) := rfl
theorem vr_q {sz i off : Nat} {es : List (List T)} {v' : V} : VR σ nw (.q sz es i off) v' = (v' = .q sz es i off) := rfl
theorem vr_t {vs : List V} {v' : V} : VR σ nw (.t vs) v' = (keysVs vs = [] ∧ v' = .t vs) := rfl
theorem vr_f {fn : Nat} {vs : List V} {v' : V} : VR σ nw (.f fn vs) v' = (keysVs vs = [] ∧ v' = .f fn vs) := rfl
theorem vr_u {v' : V} : VR σ nw .u v' = (v' = .u) := rfl
theorem cr_r {d j ver off len : Nat} {p : Path} {c' : C} : CR σ nw (.r (d, j) ver p off len) c' = if memK d j nw = true then (c' = .n ∧ ver = 0 ∧ p = [] ∧ off = 0 ∧ len = 0) else c' = .r (renK σ (d, j)) ver p off len := rfl
theorem cr_v {x : Value} {c' : C} : CR σ nw (.v x) c' = (c' = .v x) := rfl
theorem cr_b {sz : Nat} {es : List (List T)} {c' : C} : CR σ nw (.b sz es) c' = (c' = .b sz es) := rfl
theorem cr_n {c' : C} : CR σ nw .n c' = (c' = .n) := rfl
theorem cr_u {c' : C} : CR σ nw .u c' = (c' = .u) := rfl
theorem crs_nil : CRs σ nw [] [] = True := rfl
theorem crs_cons {c c' : C} {cs cs' : List C} : CRs σ nw (c :: cs) (c' :: cs') = (CR σ nw c c' ∧ CRs σ nw cs cs') := rfl
end

/-- the end of a round -/
def NEXT {ι : Type} (U : ι → Ws) (ms : List Nat) (ks : List (Nat × Nat)) (np : Nat) (L0 : Ws) (meas : ι → Nat) (ok : ι → Prop) (i : ι) (L : Ws) (_h : Hold (U, ms, ks, np, L0, meas, ok, i)) : Prop :=
  ∃ σ j, meas j < meas i ∧ ok j ∧ SBR σ [] np (U j ++ keepL ms ks L0) L ()
theorem NEXT.use {ι : Type} {U : ι → Ws} {ms : List Nat} {ks : List (Nat × Nat)} {np : Nat} {L0 : Ws} {meas : ι → Nat} {ok : ι → Prop} {i : ι} {L : Ws} (σ : List (K × K)) (j : ι) (h1 : meas j < meas i) (h2 : ok j) (h3 : SBR σ [] np (U j ++ keepL ms ks L0) L ()) : NEXT U ms ks np L0 meas ok i L () := ⟨σ, j, h1, h2, h3⟩

variable {P : Program} {md : Nat → Nat → Bool} {wr : Bool} {n np : Nat}
/-- A LOOP: U names what changes -/
theorem loopR {ι : Type} {c : Code} {L : Ws} {K : KX} (r : Nat) (hr : rid c = r) (U : ι → Ws) (ms : List Nat) (ks : List (Nat × Nat)) (nw : List (Nat × Nat)) (meas : ι → Nat) (ok : ι → Prop) (hmix : P.follows .mixedOrders = true) (hd : dstsOK n c = true) (i0 : ι) (h0 : ok i0) (hs : SBR [] nw np (U i0 ++ keepL ms ks L) L ())
    (round : ∀ i, ok i → EV P md wr n np c (U i ++ keepL ms ks L) (fun e L' => LP (fun L' => NEXT U ms ks np L meas ok i L' ()) K e L' ()) ()) : EV P md wr n np (.loop c) L K () := by
  show AW P n np (.loop c) (ofL L) _
  refine AW.loop (fun m st' => ∃ i, m = meas i ∧ ok i ∧ (∃ σ nw, SR σ nw np (U i ++ keepL ms ks L) st')) (meas i0) ⟨i0, rfl, h0, [], nw, SR.of hs.1 hs.2⟩ ?_
  rintro m st' ⟨i, rfl, h1, σ, nw', h2⟩
  refine AW.ren h2 (AW.mono (VC_ok hmix c _ _ hd (round i h1)) ?_)
  rintro e st ⟨L', rfl, h⟩
  cases e with
  | normal =>
    obtain ⟨σ, j, k1, k2, k3⟩ := h
    exact ⟨meas j, k1, j, rfl, k2, σ, [], SR.of k3.1 k3.2⟩
  | _ => exact ⟨L', rfl, h⟩


/-! rows of a typed list -/
theorem ownEs_map {α : Type} {e : α → List T} (h : ∀ x, ownE (e x) = true) (l : List α) : ownEs (l.map e) = true := by
  induction l with
  | nil => rfl
  | cons x l ih => simp only [List.map_cons, ownEs, h, ih, Bool.and_self]
theorem borEs_map {α : Type} {e e' : α → List T} (h : ∀ x, borE (e x) = e' x) (l : List α) : borEs (l.map e) = l.map e' := by
  induction l with
  | nil => rfl
  | cons x l ih => simp only [List.map_cons, borEs, h, ih]
theorem scalEs_map {α : Type} {e : α → List T} (h : ∀ x, (e x).all T.isV = true) (l : List α) : scalEs (l.map e) = true := by
  simp [scalEs, h]
theorem oneEs_map {α : Type} {e : α → List T} (h : ∀ x, (e x).all T.one = true) (l : List α) : oneEs (l.map e) = true := by
  simp [oneEs, h]
theorem take_len {α : Type} {e : α → List T} (l : List α) : (l.map e).take l.length = l.map e := by
  rw [List.take_of_length_le (by simp)]
theorem app1 {α : Type} {e : α → List T} (l : List α) (x : α) : (l ++ [x]).map e = l.map e ++ [e x] := by simp
end Go.Abs.E

namespace Go.Abs.E
open Go Go.Abs

theorem oneEs_nil : oneEs [] = true := rfl
theorem oneEs_cons {e : List T} {es : List (List T)} : oneEs (e :: es) = (e.all T.one && oneEs es) := rfl
theorem scalEs_nil : scalEs [] = true := rfl
theorem scalEs_cons {e : List T} {es : List (List T)} : scalEs (e :: es) = (e.all T.isV && scalEs es) := rfl
theorem int_c {m n : Int} (h : m = n) : C.v (.int .i64 m) = C.v (.int .i64 n) := by rw [h]

theorem take_all {α : Type} {e : α → List T} {l : List α} {n : Nat} (h : l.length = n) : (l.map e).take n = l.map e := by
  subst h; exact take_len l

theorem take_map {α : Type} {e : α → List T} {l : List α} {n : Nat} : (l.map e).take n = (l.take n).map e := by simp
theorem drop_map {α : Type} {e : α → List T} {l : List α} {n : Nat} : (l.map e).drop n = (l.drop n).map e := by simp
theorem app_map {α : Type} {e : α → List T} {l m : List α} : l.map e ++ m.map e = (l ++ m).map e := by simp
theorem take_len1 {α : Type} {l : List α} {n : Nat} (h : l.length = n) : l.take n = l := by subst h; exact List.take_length
theorem take_rest {α : Type} {l : List α} {k : Nat} : (l.drop k).take (l.length - k) = l.drop k := List.take_of_length_le (by simp)
theorem take_at {α : Type} [Inhabited α] {l : List α} {i : Nat} (h : i < l.length) : l.take (i + 1) = l.take i ++ [at' l i] := by
  rw [← List.take_append_getElem h]
  simp [at', List.getD_eq_getElem?_getD, h]

theorem ovl_nil {l : Loc} : ovl [] l = none := rfl
theorem ovl_kk {d j d' j' : Nat} {x : X} {L : Ws} : ovl ((.k (d, j), x) :: L) (.k (d', j')) = if d' = d then (if j' = j then some x else ovl L (.k (d', j'))) else ovl L (.k (d', j')) := by
  simp only [ovl, Loc.k.injEq, Prod.mk.injEq]
  by_cases h : d' = d
  · by_cases h2 : j' = j <;> simp [h, h2]
  · simp [h]
theorem ovl_sk {t d j : Nat} {x : X} {L : Ws} : ovl ((.s t, x) :: L) (.k (d, j)) = ovl L (.k (d, j)) := by simp [ovl]
theorem ovl_ks {t d j : Nat} {x : X} {L : Ws} : ovl ((.k (d, j), x) :: L) (.s t) = ovl L (.s t) := by simp [ovl]
theorem ovl_ss {t u : Nat} {x : X} {L : Ws} : ovl ((.s t, x) :: L) (.s u) = if u = t then some x else ovl L (.s u) := by simp [ovl]
theorem setCell_set {es : List (List T)} {i j : Nat} {t : T} {v : List T} : (setCell es i j t).set i v = es.set i v := by
  unfold setCell
  cases es[i]? <;> simp
theorem setCell_len {es : List (List T)} {i j : Nat} {t : T} : (setCell es i j t).length = es.length := setCell_length ..
theorem IX_setCell {α : Type} [Inhabited α] {e : α → List T} {l : List α} {i j : Nat} {t : T} {g : List T → Prop} (h : i < l.length) (h2 : l[i]? = some (at' l i) → g ((e (at' l i)).set j t)) : IX (setCell (l.map e) i j t) i g () := by
  have := at_some h
  have h3 : (l.map e)[i]? = some (e (at' l i)) := by rw [List.getElem?_map, this]; rfl
  have h4 : i < (l.map e).length := by simpa using h
  simp only [IX, Go.Abs.IX, setCell, h3]
  rw [List.getElem?_set_self h4]
  exact h2 this
theorem IX_set {α : Type} [Inhabited α] {e : α → List T} {l : List α} {i : Nat} {v : List T} {g : List T → Prop} (h : i < l.length) (h2 : g v) : IX ((l.map e).set i v) i g () := by
  have h4 : i < (l.map e).length := by simpa using h
  simp only [IX, Go.Abs.IX]
  rw [List.getElem?_set_self h4]
  exact h2

theorem constV_nil : constV (.slice none 0 0) = .c .n := rfl
theorem constV_int {k : IntKind} {n : Int} : constV (.int k n) = .c (.v (.int k n)) := rfl
theorem constV_bool {b : Bool} : constV (.bool b) = .c (.v (.bool b)) := rfl
theorem constV_str {s : ByteArray} : constV (.string s) = .c (.v (.string s)) := rfl

/-! a slice against nil -/
def anyNil (es : List (List T)) (k : V → M) : M := match es with
  | [] => .any fun b => k (.c (.v (.bool b)))
  | _ :: _ => k (.c (.v (.bool false)))
def NQ (es : List (List T)) (g : Bool → Prop) (_h : Hold (es, g)) : Prop := ∀ b, (b = true → es = []) → g b
theorem NQ.use {es : List (List T)} {g : Bool → Prop} (h : ∀ b, (b = true → es = []) → g b) : NQ es g () := h
section
variable {P : Program} {st : St} {rs : List Loc} {K : List Loc → Ws → Prop} {t : TypeId} {k : V → M} {sz : Nat} {es : List (List T)}
theorem b_nilM : bin2 P .eql t (.c (.b sz es)) (.c .n) k = match P.underlying t with
    | some (.slice _) => anyNil es k
    | _ => .bad := by
  unfold anyNil
  simp only [bin2, binM]
  cases P.underlying t with
  | none => rfl
  | some u => cases u <;> rfl
theorem wq_anyNil : WQ P false (anyNil es k) st rs K () = NQ es (fun b => WQ P false (k (.c (.v (.bool b)))) st rs K ()) () := by
  apply propext
  cases es with
  | nil => exact ⟨fun h b _ => h.2 b, fun h => ⟨rfl, fun b => h b fun _ => rfl⟩⟩
  | cons e es =>
    refine ⟨fun h b hb => ?_, fun h => h false (fun h => by cases h)⟩
    cases b with
    | false => exact h
    | true => exact absurd (hb rfl) (by simp)
end

/-! lists that are filled place by place -/
def cp {α : Type} (l : List α) (i : Nat) (d : α) : List α := l.take i ++ List.replicate (l.length - i) d
theorem cp_len {α : Type} {l : List α} {i : Nat} {d : α} (h : i ≤ l.length) : (cp l i d).length = l.length := by
  simp [cp]; omega
theorem cp_zero {α : Type} {l : List α} {d : α} : cp l 0 d = List.replicate l.length d := by simp [cp]
theorem cp_full {α : Type} {l : List α} {d : α} : cp l l.length d = l := by simp [cp]
theorem cp_set {α : Type} [Inhabited α] {l : List α} {i : Nat} {d : α} (h : i < l.length) : (cp l i d).set i (at' l i) = cp l (i + 1) d := by
  have h1 : l.length - i = (l.length - (i + 1)) + 1 := by omega
  have h2 : (l.take i).length = i := by simp; omega
  simp only [cp, h1, List.replicate_succ]
  rw [List.set_append_right _ _ (by omega), h2, Nat.sub_self, List.set_cons_zero, ← List.take_append_getElem h, List.append_assoc]
  congr 1
  simp [at', List.getD_eq_getElem?_getD, h]
theorem drop_end {α : Type} {l : List α} {i : Nat} (h : l.length ≤ i) : l.drop i = [] := List.drop_eq_nil_of_le h
theorem at_mem {α : Type} [Inhabited α] {l : List α} {i : Nat} (h : i < l.length) : at' l i ∈ l := List.mem_of_getElem? (at_some h)

/-! a list written over from its front -/
def ow {α : Type} (f : Nat → α) (l : List α) (i : Nat) : List α := (List.range i).map f ++ l.drop i
theorem ow_len {α : Type} {f : Nat → α} {l : List α} {i : Nat} (h : i ≤ l.length) : (ow f l i).length = l.length := by
  simp [ow]; omega
theorem ow_zero {α : Type} {f : Nat → α} {l : List α} : ow f l 0 = l := by simp [ow]
theorem ow_full {α : Type} {f : Nat → α} {l : List α} : ow f l l.length = (List.range l.length).map f := by simp [ow]
theorem ow_at {α : Type} [Inhabited α] {f : Nat → α} {l : List α} {i j : Nat} (h : i ≤ j) (h2 : j < l.length) : at' (ow f l i) j = at' l j := by
  simp only [at', ow, List.getD_eq_getElem?_getD]
  rw [List.getElem?_append_right (by simpa using h)]
  simp only [List.length_map, List.length_range, List.getElem?_drop]
  congr 2
  omega
theorem ow_set {α : Type} {f : Nat → α} {l : List α} {i : Nat} (h : i < l.length) : (ow f l i).set i (f i) = ow f l (i + 1) := by
  simp only [ow]
  have e : l.drop i = l[i] :: l.drop (i + 1) := List.drop_eq_getElem_cons h
  rw [List.set_append_right _ _ (by simp)]
  simp only [List.length_map, List.length_range, Nat.sub_self, List.range_succ, List.map_append, List.map_cons, List.map_nil, List.append_assoc, List.cons_append, List.nil_append]
  rw [e]
  rfl

end Go.Abs.E

namespace Go.Abs.E
open Go Go.Abs

/-! What comes in, by its shape. -/
inductive Sh where
  | i (k : IntKind)
  | b
  | s
  | sl (ss : List Sh)

def shapeFs (P : Program) (rec : TypeId → Option (List Sh)) : Nat → List Field → Option (List Sh)
  | _, [] => some []
  | m, f :: fs => match rec f.type with
    | some l => if f.offset = m ∧ P.cellsOf f.type = l.length then (shapeFs P rec (m + l.length) fs).map (l ++ ·) else none
    | none => none
def shapes (P : Program) : Nat → TypeId → Option (List Sh)
  | 0, _ => none
  | n + 1, t => match P.underlying t with
    | some .bool => some [.b]
    | some (.int k) => some [.i k]
    | some .string => some [.s]
    | some (.slice e) => (match shapes P n e with
      | some ss => if P.cellsOf e = ss.length ∧ ss.length ≠ 0 then some [.sl ss] else none
      | none => none)
    | some (.struct fs) => (match shapeFs P (shapes P n) 0 fs.toList with
      | some ss => if P.cellsOf t = ss.length then some ss else none
      | none => none)
    | _ => none

mutual
inductive Fit : Sh → T → Prop
  | i (k : IntKind) (n : Int) (h : (Lit.int k n).wf = true) : Fit (.i k) (.v (.int k n))
  | b (x : Bool) : Fit .b (.v (.bool x))
  | s (x : ByteArray) (h : x.size ≤ maxLen) : Fit .s (.v (.string x))
  | sl (ss : List Sh) (es : List (List T)) (h : FitEs ss es) : Fit (.sl ss) (.s false ss.length es)
inductive FitAll : List Sh → List T → Prop
  | nil : FitAll [] []
  | cons (s : Sh) (ss : List Sh) (t : T) (ts : List T) (h : Fit s t) (h2 : FitAll ss ts) : FitAll (s :: ss) (t :: ts)
inductive FitEs : List Sh → List (List T) → Prop
  | nil (ss : List Sh) : FitEs ss []
  | cons (ss : List Sh) (e : List T) (es : List (List T)) (h : FitAll ss e) (h2 : FitEs ss es) : FitEs ss (e :: es)
end

theorem FitAll.len {ss : List Sh} {ts : List T} (h : FitAll ss ts) : ts.length = ss.length := by
  induction ss generalizing ts with
  | nil => cases h; rfl
  | cons s ss ih => cases h with | cons _ _ t ts h h2 => simp [ih h2]
theorem FitAll.append {ss ss' : List Sh} {ts ts' : List T} (h : FitAll ss ts) (h2 : FitAll ss' ts') : FitAll (ss ++ ss') (ts ++ ts') := by
  induction ss generalizing ts with
  | nil => cases h; exact h2
  | cons s ss ih => cases h with | cons _ _ t ts h h3 => exact .cons _ _ _ _ h (ih h3)
theorem FitEs.of {ss : List Sh} {es : List (List T)} (h : ∀ e ∈ es, FitAll ss e) : FitEs ss es := by
  induction es with
  | nil => exact .nil _
  | cons e es ih => exact .cons _ _ _ (h e (by simp)) (ih fun e he => h e (by simp [he]))
theorem FitEs.map {α : Type} {ss : List Sh} {enc : α → List T} (hd : ∀ e, FitAll ss e → ∃ x, e = enc x) {es : List (List T)} (h : FitEs ss es) : ∃ l : List α, es = l.map enc := by
  induction es with
  | nil => exact ⟨[], rfl⟩
  | cons e es ih => cases h with | cons _ _ _ h h2 =>
    obtain ⟨x, rfl⟩ := hd e h
    obtain ⟨l, rfl⟩ := ih h2
    exact ⟨x :: l, rfl⟩

section
variable {H : Type} {enc : TypeId × Value → H} {P : Program} {w : World}

/-- all cells of a piece -/
def BorAll (w : World) (ts : List T) (cs : List Value) : Prop := ts.length = cs.length ∧ ∀ (j : Nat) (t : T) (y : Value), ts[j]? = some t → cs[j]? = some y → BorT w noX t y

theorem BorAll.append {ts ts' : List T} {cs cs' : List Value} (h : BorAll w ts cs) (h2 : BorAll w ts' cs') : BorAll w (ts ++ ts') (cs ++ cs') := by
  refine ⟨by simp [h.1, h2.1], fun j t y h3 h4 => ?_⟩
  by_cases hj : j < ts.length
  · rw [List.getElem?_append_left hj] at h3
    rw [List.getElem?_append_left (by rw [← h.1]; exact hj)] at h4
    exact h.2 j t y h3 h4
  · rw [List.getElem?_append_right (by omega)] at h3
    rw [List.getElem?_append_right (by rw [← h.1]; omega), ← h.1] at h4
    exact h2.2 _ t y h3 h4
theorem BorAll.one {t : T} {y : Value} (h : BorT w noX t y) : BorAll w [t] [y] := by
  refine ⟨rfl, fun j t' y' h3 h4 => ?_⟩
  cases j with
  | zero => simp at h3 h4; subst h3; subst h4; exact h
  | succ j => simp at h3

theorem addr_add0 (b o i : Nat) : (⟨b, o, none⟩ : Addr).add i = ⟨b, o + i, none⟩ := by
  unfold Addr.add
  split
  · rename_i h; subst h; rfl
  · rfl

theorem shape_in : ∀ (m : Nat) {t : TypeId} {ss : List Sh} {n : Nat} {cs : List Value} {x : DataW H × List MemPlace}, shapes P m t = some ss → DataW.trod enc P w 0 (fun _ => true) true n t cs = some x → ∃ ts, FitAll ss ts ∧ BorAll w ts cs
  | 0, t, ss, n, cs, x, hs, h => by simp [shapes] at hs
  | m + 1, t, ss, n, cs, x, hs, h => by
    simp only [shapes] at hs
    split at hs
    · rename_i hu
      obtain rfl := Option.some.inj hs
      obtain ⟨b, rfl, _⟩ := DataW.trod_bool hu h
      exact ⟨[.v (.bool b)], .cons _ _ _ _ (.b b) .nil, .one (.v _)⟩
    · rename_i k hu
      obtain rfl := Option.some.inj hs
      obtain ⟨z, rfl, _, hw⟩ := DataW.trod_int hu h
      exact ⟨[.v (.int k z)], .cons _ _ _ _ (.i k z hw) .nil, .one (.v _)⟩
    · rename_i hu
      obtain rfl := Option.some.inj hs
      obtain ⟨z, rfl, _, hw⟩ := DataW.trod_string hu h
      exact ⟨[.v (.string z)], .cons _ _ _ _ (.s z hw) .nil, .one (.v _)⟩
    · rename_i e hu
      cases he : shapes P m e with
      | none => simp [he] at hs
      | some se =>
        simp only [he] at hs
        split at hs
        · rename_i hcc
          obtain ⟨hc, hne⟩ := hcc
          obtain rfl := Option.some.inj hs
          rcases DataW.trod_slice hu h with ⟨rfl, _⟩ | ⟨a, len, cap, elems, rest, k, rfl, rfl, rfl, hb, hl, hm, hlen, hel, _, _⟩
          · exact ⟨[.s false se.length []], .cons _ _ _ _ (.sl _ _ (.nil _)) .nil, .one (.s _ _ _ (.mk none 0 se.length [] 0 0 (fun _ _ => undef) (by simp) (fun i e h => by simp at h) (.inl rfl) (fun i e j t h => by simp at h) (fun i e j t h => by simp at h)))⟩
          · -- each element
            have each : ∀ i, i < len → ∃ ts cs, w.cells? 0 (a.add (i * se.length)) se.length = some cs ∧ FitAll se ts ∧ BorAll w ts cs := by
              intro i hi
              have h1 := hel i hi
              rw [List.getElem?_eq_getElem (by omega), Option.bind_eq_some_iff] at h1
              obtain ⟨cs, h2, h3⟩ := h1
              obtain ⟨ts, h4, h5⟩ := shape_in m he h3
              rw [hc] at h2
              exact ⟨ts, cs, h2, h4, h5⟩
            let pick : Nat → List T := fun i => if hi : i < len then Classical.choose (each i hi) else []
            have hp : ∀ i, i < len → ∃ cs, w.cells? 0 (a.add (i * se.length)) se.length = some cs ∧ FitAll se (pick i) ∧ BorAll w (pick i) cs := by
              intro i hi
              have := Classical.choose_spec (each i hi)
              simp only [pick, dif_pos hi]
              exact this
            have hget : ∀ (i : Nat) (e : List T), ((List.range len).map pick)[i]? = some e → i < len ∧ e = pick i := by
              intro i e h
              rw [List.getElem?_map] at h
              by_cases hi : i < len
              · rw [List.getElem?_range hi] at h
                exact ⟨hi, (Option.some.inj h).symm⟩
              · rw [List.getElem?_eq_none (by simpa using hi)] at h
                simp at h
            have hfit : FitEs se ((List.range len).map pick) := by
              refine FitEs.of fun e he => ?_
              obtain ⟨i, hi, rfl⟩ := List.mem_map.1 he
              obtain ⟨cs, _, h2, _⟩ := hp i (by simpa using hi)
              exact h2
            refine ⟨[.s false se.length ((List.range len).map pick)], .cons _ _ _ _ (.sl _ _ hfit) .nil, .one (.s _ _ _ ?_)⟩
            have hlen2 : ((List.range len).map pick).length = len := by simp
            by_cases h0 : len = 0
            · subst h0
              exact .mk (some a) cap se.length [] 0 0 (fun _ _ => undef) (by simp) (fun i e h => by simp at h) (.inl rfl) (fun i e j t h => by simp at h) (fun i e j t h => by simp at h)
            · -- a place's cell
              have hcell : ∀ (i : Nat) (e : List T) (j : Nat) (t : T), ((List.range len).map pick)[i]? = some e → e[j]? = some t → ∃ y, w.cell? ((a.add (i * se.length)).add j) = some y ∧ BorT w noX t y := by
                intro i e j t h1 h2
                obtain ⟨hi, rfl⟩ := hget i e h1
                obtain ⟨cs, h3, h4, h5⟩ := hp i hi
                obtain ⟨_, h6, h7⟩ := World.cells?_some h3
                have hj : j < se.length := by
                  have := (List.getElem?_eq_some_iff.1 h2).1
                  rw [h4.len] at this; exact this
                have hjc : j < cs.length := by omega
                refine ⟨cs[j], ?_, h5.2 j t _ h2 (List.getElem?_eq_getElem hjc)⟩
                rw [h7 j hj, List.getElem?_eq_getElem hjc]
              obtain ⟨b, o, sp⟩ := a
              obtain ⟨cs0, hc0, hf0, hb0⟩ := hp 0 (by omega)
              obtain ⟨_, hl0, hg0⟩ := World.cells?_some hc0
              have hsp : sp = none := by
                have h8 := hg0 0 (by omega)
                rw [List.getElem?_eq_getElem (by omega)] at h8
                have := World.cell?_spot h8
                simpa [Addr.add] using this
              subst hsp
              let g : Nat → Nat → Value := fun i j => ((w.cell? ⟨b, o + (i * se.length + j), none⟩)).getD undef
              have hkey : ∀ (i : Nat) (e : List T) (j : Nat) (t : T), ((List.range len).map pick)[i]? = some e → e[j]? = some t → w.cell? ⟨b, o + (i * se.length + j), none⟩ = some (g i j) ∧ BorT w noX t (g i j) := by
                intro i e j t h1 h2
                obtain ⟨y, h3, h4⟩ := hcell i e j t h1 h2
                rw [addr_add0, addr_add0, Nat.add_assoc] at h3
                simp only [g, h3, Option.getD_some]
                exact ⟨trivial, h4⟩
              have := Bor.mk (w := w) (X := noX) (some ⟨b, o, none⟩) cap se.length ((List.range len).map pick) b o g (by omega) (fun i e h => by
                obtain ⟨hi, rfl⟩ := hget i e h
                obtain ⟨cs, _, h4, _⟩ := hp i hi
                exact h4.len) (.inr ⟨rfl, fun h => h⟩) (fun i e j t h1 h2 => (hkey i e j t h1 h2).1) (fun i e j t h1 h2 => (hkey i e j t h1 h2).2)
              rw [hlen2] at this
              exact this
        · simp at hs
    · rename_i fs hu
      split at hs
      rotate_left
      · simp at hs
      rename_i ss0 hsf
      split at hs
      rotate_left
      · simp at hs
      rename_i hct
      obtain rfl := Option.some.inj hs
      obtain ⟨xs, k, rfl, rfl, hcl, hxl, hf⟩ := DataW.trod_struct hu h
      have key : ∀ (l : List Field) (m0 : Nat) (ss : List Sh), shapeFs P (shapes P m) m0 l = some ss → (∀ f ∈ l, ∃ x, DataW.trod enc P w 0 (fun _ => true) true k f.type ((cs.drop f.offset).take (P.cellsOf f.type)) = some x) →
          ∃ ts, FitAll ss ts ∧ ts.length = ss.length ∧ BorAll w ts ((cs.drop m0).take ss.length) := by
        intro l
        induction l with
        | nil =>
          intro m0 ss h1 h2
          obtain rfl := Option.some.inj h1
          exact ⟨[], .nil, rfl, by simp [BorAll]⟩
        | cons f l ih =>
          intro m0 ss h1 h2
          simp only [shapeFs] at h1
          cases hr : shapes P m f.type with
          | none => simp [hr] at h1
          | some sf =>
            simp only [hr] at h1
            split at h1
            · rename_i ho
              obtain ⟨ho, hc⟩ := ho
              rw [Option.map_eq_some_iff] at h1
              obtain ⟨sr, h3, rfl⟩ := h1
              obtain ⟨x, hx⟩ := h2 f (by simp)
              obtain ⟨t1, q1, q2⟩ := shape_in m hr hx
              obtain ⟨t2, q3, q4, q5⟩ := ih _ _ h3 fun f hf => h2 f (by simp [hf])
              rw [ho, hc] at q2
              refine ⟨t1 ++ t2, q1.append q3, by simp [q1.len, q4], ?_⟩
              have e : (cs.drop m0).take (sf ++ sr).length = (cs.drop m0).take sf.length ++ (cs.drop (m0 + sf.length)).take sr.length := by
                rw [List.length_append, List.take_add, List.drop_drop]
              rw [e]
              exact q2.append q5
            · simp at h1
      obtain ⟨ts, q1, q2, q3⟩ := key fs.toList 0 _ hsf (fun f hff => by
        obtain ⟨i, hi⟩ := List.mem_iff_getElem?.1 hff
        have hfi : fs[i]? = some f := by simpa using hi
        have := hf i f hfi
        have hil : i < xs.length := by
          have := (Array.getElem?_eq_some_iff.1 hfi).1
          omega
        rw [List.getElem?_eq_getElem hil] at this
        exact ⟨_, this⟩)
      refine ⟨ts, q1, ?_⟩
      rw [List.drop_zero] at q3
      obtain ⟨q4, q5⟩ := q3
      have hlen : ts.length = cs.length := by omega
      refine ⟨hlen, fun j t y h1 h2 => q5 j t y h1 ?_⟩
      rw [List.getElem?_take_of_lt (by have := (List.getElem?_eq_some_iff.1 h1).1; omega)]
      exact h2
    · simp at hs
end
end Go.Abs.E

namespace Go.Abs.E
open Go Go.Abs Go.ChangeAt Go.ChangeShapes Go.WideShapes Go.RowKit

/-- an argument as it comes in -/
def AIn (w : World) (a : A) (v : Value) : Prop := match a with
  | .c t => BorT w noX t v
  | .a ts => ∃ ys, v = .agg ys ∧ BorAll w ts ys.toList
  | _ => False

section
variable {H : Type} {enc : TypeId × Value → H} {P : Program} {W : World}

theorem arg_cell {t : TypeId} {s : Sh} {v : Value} {d : DataW H} {ps : List MemPlace} (hs : shapes P 12 t = some [s]) (hna : ∀ c, v ≠ .agg c) (h : DataW.Trod enc P W 0 (fun _ => true) true t v d ps) : ∃ tt, Fit s tt ∧ AIn W (.c tt) v := by
  obtain ⟨n, hn⟩ := h
  obtain ⟨ts, h1, h2⟩ := shape_in 12 hs hn
  cases h1 with
  | cons _ _ tt ts h1 h3 =>
    cases h3
    have hv : v.cells = #[v] := by
      cases v <;> first | rfl | (rename_i c; exact absurd rfl (hna c))
    rw [hv] at h2
    exact ⟨tt, h1, h2.2 0 tt v rfl rfl⟩
theorem arg_struct {t : TypeId} {ss : List Sh} {v : Value} {d : DataW H} {ps : List MemPlace} (hs : shapes P 12 t = some ss) (ha : ∃ c, v = .agg c) (h : DataW.Trod enc P W 0 (fun _ => true) true t v d ps) : ∃ ts, FitAll ss ts ∧ AIn W (.a ts) v := by
  obtain ⟨n, hn⟩ := h
  obtain ⟨ts, h1, h2⟩ := shape_in 12 hs hn
  obtain ⟨c, rfl⟩ := ha
  exact ⟨ts, h1, c, rfl, h2⟩

theorem below_of_keep {w w' : World} (h : Keep ⟨w, noX, fun _ => none⟩ w') : Below w.heap.size w w' :=
  ⟨h.os, h.tape, h.output, h.size, fun k hk => h.block k hk (fun h => h)⟩
theorem heap_none {cx : Cx} {H : Heap} {w : World} (h : ∀ i, H i = none) : HeapOK cx H w :=
  ⟨fun i r p sz es hi => by rw [h] at hi; simp at hi, fun i p sz es g i' p' sz' es' g' ⟨r, hi, _⟩ => by rw [h] at hi; simp at hi, fun i p sz es g ⟨r, hi, _⟩ => by rw [h] at hi; simp at hi⟩

theorem cok_in {st : St} {Hd : K → Path → Hdr} {n j : Nat} {t : T} {y : Value} (h : BorT W noX t y) : COK ⟨W, noX, fun _ => none⟩ st Hd (entryC n j t) y := by
  cases h with
  | v x => exact .v _
  | d x => exact .u _
  | s y sz es h => exact .b _ _ _ h
theorem entryCs_get : ∀ (ts : List T) (n j i : Nat), (entryCs n j ts)[i]? = (ts[i]?).map (entryC n (j + i))
  | [], n, j, i => by simp [entryCs]
  | t :: ts, n, j, 0 => by simp [entryCs]
  | t :: ts, n, j, i + 1 => by simp only [entryCs, List.getElem?_cons_succ]; rw [entryCs_get ts n (j + 1) i, show j + 1 + i = j + (i + 1) by omega]
theorem entryCs_len : ∀ (ts : List T) (n j : Nat), (entryCs n j ts).length = ts.length
  | [], n, j => rfl
  | t :: ts, n, j => by simp [entryCs, entryCs_len ts]

/-- a call from a start's arguments -/
theorem fn_true {f : Nat} {al fin : List A} {vals : Array Value} (hf : Go.Abs.Fn P f al fin [.c (.v (.bool true))]) (hsz : vals.size = al.length) (hin : ∀ (n : Nat) (a : A) (v : Value), al[n]? = some a → vals[n]? = some v → AIn W a v) :
    Calls P f vals W fun e W' => e = .returned (.bool true) ∧ Below W.heap.size W W' := by
  obtain ⟨_, _, _, h⟩ := hf
  have hget : ∀ (n : Nat) (a : A), al[n]? = some a → ∃ v, vals[n]? = some v ∧ vals.getD n undef = v ∧ AIn W a v := by
    intro n a ha
    have hn := (List.getElem?_eq_some_iff.1 ha).1
    have hv : vals[n]? = some vals[n] := Array.getElem?_eq_getElem (by omega)
    exact ⟨_, hv, by simp [Array.getD_eq_getD_getElem?, hv], hin n a _ ha hv⟩
  refine Calls.mono (h W noX vals (fun _ _ => ⟨0, 0, 0⟩) hsz ?_ (heap_none fun i => ?_)) ?_
  · intro t v ht
    simp only [entrySt] at ht
    cases ha : al[t]? with
    | none => rw [ha] at ht; simp at ht
    | some a =>
      rw [ha] at ht
      obtain rfl := X.v.inj ht
      obtain ⟨y, _, hy, h2⟩ := hget t a ha
      rw [hy]
      cases a with
      | c tt => exact .c _ _ (cok_in h2)
      | a ts =>
        obtain ⟨ys, rfl, h3, h4⟩ := h2
        refine .a _ _ (by simp [entryCs_len, h3]) fun i c y h5 h6 => ?_
        rw [entryCs_get, Option.map_eq_some_iff] at h5
        obtain ⟨tt, h7, rfl⟩ := h5
        exact cok_in (h4 i tt y h7 (by simpa using h6))
      | q _ _ _ _ => exact h2.elim
      | f _ _ => exact h2.elim
  · cases i with
    | inr x => rfl
    | inl k =>
      obtain ⟨n, j⟩ := k
      have : cellOf al (n, j) = none := by
        simp only [cellOf]
        cases ha : al[n]? with
        | none => rfl
        | some a =>
          try simp only []
          obtain ⟨y, _, _, h2⟩ := hget n a ha
          cases hj : a.ts[j]? with
          | none => rfl
          | some tt =>
            have hb : ∃ y, BorT W noX tt y := by
              cases a with
              | c t0 =>
                cases j with
                | zero => simp [A.ts] at hj; subst hj; exact ⟨_, h2⟩
                | succ j => simp [A.ts] at hj
              | a ts =>
                obtain ⟨ys, rfl, h3, h4⟩ := h2
                have hjl := (List.getElem?_eq_some_iff.1 hj).1
                exact ⟨_, h4 j tt _ hj (List.getElem?_eq_getElem (by rw [← h3]; exact hjl))⟩
              | q _ _ _ _ => exact h2.elim
              | f _ _ => exact h2.elim
            obtain ⟨y, hb⟩ := hb
            cases hb <;> rfl
      simp only [HeapOf, entrySt, this]
  · rintro e W' ⟨r, Hd', rfl, _, hk, hr, _⟩
    refine ⟨?_, below_of_keep hk⟩
    have : r = .bool true := hr
    rw [this]
end
end Go.Abs.E

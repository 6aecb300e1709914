/- A part of the machine by itself. No condition. -/
import Derived.Test.YtijifinpifomcaaMachFive
set_option linter.unusedVariables false
set_option linter.unusedSimpArgs false
set_option linter.constructorNameAsVariable false
set_option linter.unusedSectionVars false
namespace Go.Abs
open Go
theorem Bor.stab {w w' : World} {X X' : Nat → Prop} (hk : ∀ b, b < w.heap.size → ¬ X b → w'.heap[b]? = w.heap[b]? ∧ ¬ X' b) {y : Value} {sz : Nat} {es : List (List T)} (h : Bor w X y sz es) : sz ≠ 0 → szEs es = true → Bor w' X' y sz es := by
  refine Bor.rec (motive_1 := fun y sz es _ => sz ≠ 0 → szEs es = true → Bor w' X' y sz es) (motive_2 := fun t y _ => szT t = true → BorT w' X' t y) ?_ ?_ ?_ ?_ h
  · intro a cap sz es b o g hl hsz ha hc ht ih h0 hE
    have hblk : es = [] ∨ (a = some ⟨b, o, none⟩ ∧ ¬ X b ∧ b < w.heap.size) := by
      rcases ha with rfl | ⟨h1, h2⟩
      · exact .inl rfl
      · cases es with
        | nil => exact .inl rfl
        | cons e es =>
          have h3 := hsz 0 e rfl
          cases e with
          | nil => simp at h3; exact absurd h3.symm h0
          | cons t e => exact .inr ⟨h1, h2, cell_lt (hc 0 (t :: e) 0 t rfl rfl)⟩
    refine .mk a cap sz es b o g hl hsz (hblk.imp id fun h => ⟨h.1, (hk _ h.2.2 h.2.1).2⟩) (fun i e j t hi hj => ?_) (fun i e j t hi hj => ih i e j t hi hj (szE_at (szEs_at hE hi) hj))
    have h1 := hc i e j t hi hj
    rcases hblk with rfl | ⟨_, hX, _⟩
    · simp at hi
    · rw [cell_same (hk b (cell_lt h1) hX).1]
      exact h1
  · exact fun x _ => .v x
  · exact fun x _ => .d x
  · exact fun y sz es _ ih h => by
      simp only [szT, Bool.and_eq_true, bne_iff_ne] at h
      exact .s y sz es (ih h.1 h.2)
open Classical in
noncomputable abbrev lentAmb (y : Value) (sz : Nat) (es : List (List T)) (h0 : sz ≠ 0) (hE : szEs es = true) : Amb where
  view := fun y' => if y' = y then some (sz, es) else none
  ok := fun w X => Bor w X y sz es
  stab := fun w w' X X' h _ hk => Bor.stab hk h h0 hE
  law := fun w X y' sz' es' hv hb => by
    split at hv
    · rename_i h
      subst h
      obtain ⟨rfl, rfl⟩ := Prod.mk.inj (Option.some.inj hv)
      exact hb
    · cases hv
theorem lentAmb_view {y : Value} {sz : Nat} {es : List (List T)} {h0 : sz ≠ 0} {hE : szEs es = true} : (lentAmb y sz es h0 hE).view y = some (sz, es) := by
  classical
  show (if y = y then some (sz, es) else none) = _
  rw [if_pos rfl]
variable [Amb]
theorem Fn.lift {P : Program} {f : Nat} {as fin res : List A} (h : @Fn Amb.none P f as fin res) : Fn P f as fin res :=
  ⟨h.1, h.2.1, h.2.2.1, fun w X vals Hd h1 h2 h3 _ => h.2.2.2 w X vals Hd h1 h2 h3 trivial⟩
theorem recut_rel {cx : Cx} {n : Nat} {st : St} {Hd : K → Path → Hdr} {a : Act} {w : World} (h : Rel cx n st Hd a w) {t ver off m : Nat} {k k' : K} {e : Ent} (hs : st (.s t) = .v (.c (.r k ver [] off m))) (hk : st (.k k) = .e e) (hf : st (.k k') = .none) (hno : cx.H0 k' = none) (hsc : scalEs e.es = true) (hm : off + m ≤ e.es.length) :
    ∃ Hd', Rel cx n (app [(.s t, .v (.c (.r k' 0 [] 0 m))), (.k k', .e ⟨0, e.sz, (e.es.drop off).take m⟩), (.k k, .gone)] st) Hd' a w := by
  have hne : k ≠ k' := by rintro rfl; rw [hk] at hf; cases hf
  have hi : HeapOf st Hd (.inl k) = some ⟨e.sz, e.es, Hd k⟩ := HeapOf_some hk
  have hrow := h.heap.row hi (show rowAt e.sz e.es [] = some (e.sz, e.es) from rfl)
  have hcap0 : e.es.length ≤ (Hd k []).cap := hrow.1
  have hsce : ∀ es2 : List (List T), (∀ x, x ∈ es2 → x ∈ e.es) → ∀ (x : Nat × Nat) (q : Path), rowAt e.sz es2 (x :: q) = none := by
    intro es2 hsub x q
    obtain ⟨i, j⟩ := x
    simp only [rowAt]
    cases hc : cellAt es2 i j with
    | none => rfl
    | some t =>
      unfold cellAt at hc
      cases hi2 : es2[i]? with
      | none => simp [hi2] at hc
      | some el =>
        rw [hi2] at hc
        have hc : el[j]? = some t := hc
        have h1 := List.all_eq_true.1 (List.all_eq_true.1 hsc el (hsub el (List.mem_of_getElem? hi2))) t (List.mem_of_getElem? hc)
        cases t with
        | v _ => rfl
        | d => rfl
        | s own z zs => simp [T.isV] at h1
  have hsub : ∀ x, x ∈ (e.es.drop off).take m → x ∈ e.es := fun x hx => List.mem_of_mem_drop (List.mem_of_mem_take hx)
  refine ⟨fun k2 => if k2 = k' then (fun _ => ⟨(Hd k []).b, (Hd k []).o + off * e.sz, (Hd k []).cap - off⟩) else Hd k2, ?_⟩
  have s1 : app [(.s t, .v (.c (.r k' 0 [] 0 m))), (.k k', .e ⟨0, e.sz, (e.es.drop off).take m⟩), (.k k, .gone)] st (.k k') = .e ⟨0, e.sz, (e.es.drop off).take m⟩ := by simp [app, ovl]
  have s2 : app [(.s t, .v (.c (.r k' 0 [] 0 m))), (.k k', .e ⟨0, e.sz, (e.es.drop off).take m⟩), (.k k, .gone)] st (.k k) = .gone := by simp [app, ovl, hne]
  have s3 : ∀ k2, k2 ≠ k → k2 ≠ k' → app [(.s t, .v (.c (.r k' 0 [] 0 m))), (.k k', .e ⟨0, e.sz, (e.es.drop off).take m⟩), (.k k, .gone)] st (.k k2) = st (.k k2) := fun k2 q1 q2 => by simp [app, ovl, q1, q2]
  have s4 : ∀ t', t' ≠ t → app [(.s t, .v (.c (.r k' 0 [] 0 m))), (.k k', .e ⟨0, e.sz, (e.es.drop off).take m⟩), (.k k, .gone)] st (.s t') = st (.s t') := fun t' q => by simp [app, ovl, q]
  have s5 : app [(.s t, .v (.c (.r k' 0 [] 0 m))), (.k k', .e ⟨0, e.sz, (e.es.drop off).take m⟩), (.k k, .gone)] st (.s t) = .v (.c (.r k' 0 [] 0 m)) := by simp [app, ovl]
  generalize app [(.s t, .v (.c (.r k' 0 [] 0 m))), (.k k', .e ⟨0, e.sz, (e.es.drop off).take m⟩), (.k k, .gone)] st = st2 at s1 s2 s3 s4 s5 ⊢
  have hkn : ∀ k2 v, known st k2 v → known st2 k2 v := by
    intro k2 v hq
    have q1 : k2 ≠ k' := by rintro rfl; exact hq.1 hf
    by_cases q2 : k2 = k
    · subst q2; exact ⟨by rw [s2]; simp, fun e' he' => by rw [s2] at he'; cases he'⟩
    · unfold known at *; rw [s3 k2 q2 q1]; exact hq
  have hva : ∀ k2 v p sz es g, known st k2 v → valid st2 (fun k2 => if k2 = k' then (fun _ => ⟨(Hd k []).b, (Hd k []).o + off * e.sz, (Hd k []).cap - off⟩) else Hd k2) k2 v p sz es g → ∃ es0, valid st Hd k2 v p sz es0 g ∧ es0.length = es.length := by
    intro k2 v p sz es g hq hv
    have q1 : k2 ≠ k' := by rintro rfl; exact hq.1 hf
    obtain ⟨e', r1, r2, r3, r4⟩ := hv
    by_cases q2 : k2 = k
    · subst q2; rw [s2] at r1; cases r1
    · rw [s3 k2 q2 q1] at r1
      simp only [if_neg q1] at r4
      exact ⟨es, ⟨e', r1, r2, r3, r4⟩, rfl⟩
  have hnew : ∀ j r p sz es g, HeapOf st2 (fun k2 => if k2 = k' then (fun _ => ⟨(Hd k []).b, (Hd k []).o + off * e.sz, (Hd k []).cap - off⟩) else Hd k2) j = some r → rowAt r.sz r.es p = some (sz, es) → r.hd p = g →
      (j = .inl k' ∧ p = [] ∧ sz = e.sz ∧ es = (e.es.drop off).take m ∧ g = ⟨(Hd k []).b, (Hd k []).o + off * e.sz, (Hd k []).cap - off⟩) ∨ (j ≠ .inl k' ∧ j ≠ .inl k ∧ HeapOf st Hd j = some r) := by
    intro j r p sz es g hj hp hg
    cases j with
    | inr _ => simp [HeapOf] at hj
    | inl k2 =>
      by_cases q1 : k2 = k'
      · subst q1
        simp only [HeapOf, s1, if_true, Option.some.injEq] at hj
        subst hj
        cases p with
        | nil =>
          simp only [rowAt, Option.some.injEq, Prod.mk.injEq] at hp
          exact .inl ⟨rfl, rfl, hp.1.symm, hp.2.symm, hg.symm⟩
        | cons x q => rw [hsce _ hsub x q] at hp; cases hp
      · by_cases q2 : k2 = k
        · subst q2; simp only [HeapOf, s2] at hj; cases hj
        · refine .inr ⟨fun q => q1 (Sum.inl.inj q), fun q => q2 (Sum.inl.inj q), ?_⟩
          simp only [HeapOf, s3 k2 q2 q1, if_neg q1] at hj ⊢
          exact hj
  have hatk : (HeapOf st Hd).at (.inl k) [] e.sz e.es (Hd k []) := ⟨_, hi, rfl, rfl⟩
  refine ⟨h.defers, h.size, fun t' v hv => ?_, ⟨fun j r p sz es hj hp => ?_, ?_, ?_⟩, h.keep, fun k2 h0 hk2 => ?_, h.amb⟩
  · by_cases ht : t' = t
    · subst ht
      rw [s5] at hv
      obtain rfl := X.v.inj hv
      obtain ⟨r1, r2⟩ := h.slots t' _ hs
      refine ⟨r1, ?_⟩
      generalize a.tmps.getD t' undef = y at r2
      cases r2 with | c _ _ hc =>
      cases hc with | r _ _ _ _ _ ad cap hkn' hl hva' =>
      obtain ⟨_, q5⟩ := hva' e.sz e.es (Hd k []) ⟨e, hk, .inl rfl, rfl, rfl⟩
      refine .c _ _ (.r _ _ _ _ _ _ _ ⟨by rw [s1]; simp, fun _ _ => Nat.zero_le _⟩ hl fun sz es g hval => ?_)
      obtain ⟨e', q1, _, q3, q4⟩ := hval
      rw [s1] at q1
      obtain rfl := X.e.inj q1
      simp only [rowAt, Option.some.injEq, Prod.mk.injEq] at q3
      obtain ⟨rfl, rfl⟩ := q3
      simp only [if_true] at q4
      subst q4
      refine ⟨by rw [List.length_take, List.length_drop]; omega, fun hc0 => ?_⟩
      obtain ⟨p1, p2⟩ := q5 hc0
      exact ⟨by rw [p1]; simp, by simp only []; omega⟩
    · rw [s4 t' ht] at hv
      obtain ⟨r1, r2⟩ := h.slots t' v hv
      exact ⟨r1, r2.mono hkn hva⟩
  · rcases hnew j r p sz es _ hj hp rfl with ⟨rfl, rfl, rfl, rfl, hg⟩ | ⟨_, _, hj2⟩
    · rw [hg]
      have hlen : ((e.es.drop off).take m).length = m := by rw [List.length_take, List.length_drop]; omega
      refine ⟨by rw [hlen]; simp only []; omega, fun hc => ?_⟩
      have hc : (Hd k []).cap - off ≠ 0 := hc
      obtain ⟨c, E, k1, k2, k3⟩ := hrow.2 (show (Hd k []).cap ≠ 0 by omega)
      refine ⟨c, E, k1, ?_, fun i el hel => ?_⟩
      · have : off * e.sz + ((Hd k []).cap - off) * e.sz = (Hd k []).cap * e.sz := by rw [← Nat.add_mul]; congr 1; omega
        have k2' : (Hd k []).o + (Hd k []).cap * e.sz ≤ c.size := k2
        simp only []
        omega
      · have hil := (List.getElem?_eq_some_iff.1 hel).1
        rw [hlen] at hil
        have hel0 : e.es[off + i]? = some el := by
          rw [List.getElem?_take_of_lt hil, List.getElem?_drop] at hel
          exact hel
        obtain ⟨g1, g2⟩ := k3 (off + i) el hel0
        refine ⟨g1, fun jj tt htt => ?_⟩
        obtain ⟨yv, y1, y2⟩ := g2 jj tt htt
        refine ⟨yv, ?_, ?_⟩
        · have y1' : c[(Hd k []).o + ((off + i) * e.sz + jj)]? = some yv := y1
          rw [← y1']
          congr 1
          simp only []
          rw [Nat.add_mul]
          omega
        · have h1 := List.all_eq_true.1 (List.all_eq_true.1 hsc el (List.mem_of_getElem? hel0)) tt (List.mem_of_getElem? htt)
          cases tt with
          | v _ => exact y2
          | d => exact y2
          | s own z zs => simp [T.isV] at h1
    · exact h.heap.rows j r p sz es hj2 hp
  · rintro j p sz es g j' p' sz' es' g' ⟨r, hj, hp, hg⟩ ⟨r', hj', hp', hg'⟩ hc hc' hb
    rcases hnew j r p sz es g hj hp hg with ⟨rfl, rfl, rfl, rfl, rfl⟩ | ⟨n1, n2, hj2⟩ <;> rcases hnew j' r' p' sz' es' g' hj' hp' hg' with ⟨rfl, rfl, rfl, rfl, rfl⟩ | ⟨n3, n4, hj3⟩
    · exact ⟨rfl, rfl⟩
    · have hc : (Hd k []).cap - off ≠ 0 := hc
      have := (h.heap.inj _ _ _ _ _ _ _ _ _ _ hatk ⟨r', hj3, hp', hg'⟩ (by omega) hc' hb).1
      exact absurd this.symm n4
    · have hc' : (Hd k []).cap - off ≠ 0 := hc'
      have := (h.heap.inj _ _ _ _ _ _ _ _ _ _ hatk ⟨r, hj2, hp, hg⟩ (by omega) hc hb.symm).1
      exact absurd this.symm n2
    · exact h.heap.inj _ _ _ _ _ _ _ _ _ _ ⟨r, hj2, hp, hg⟩ ⟨r', hj3, hp', hg'⟩ hc hc' hb
  · rintro j p sz es g ⟨r, hj, hp, hg⟩ hc
    rcases hnew j r p sz es g hj hp hg with ⟨rfl, rfl, rfl, rfl, rfl⟩ | ⟨_, _, hj2⟩
    · have hc : (Hd k []).cap - off ≠ 0 := hc
      have hb := h.heap.blk (.inl k) [] e.sz e.es (Hd k []) hatk (by omega)
      exact hb
    · exact h.heap.blk _ _ _ _ _ ⟨r, hj2, hp, hg⟩ hc
  · have q1 : k2 ≠ k' := by rintro rfl; rw [hno] at hk2; cases hk2
    obtain ⟨r1, r2⟩ := h.hdr k2 h0 hk2
    by_cases q2 : k2 = k
    · subst q2; exact ⟨by rw [s2]; simp, fun e' he' => by rw [s2] at he'; cases he'⟩
    · exact ⟨by rw [s3 k2 q2 q1]; exact r1, fun e' he' => by rw [s3 k2 q2 q1] at he'; simp only [if_neg q1]; exact r2 e' he'⟩
theorem andI_255 (x : Int) : 0 ≤ andI .i64 x 255 ∧ andI .i64 x 255 ≤ 255 := by
  have h : (BitVec.ofInt 64 x &&& BitVec.ofInt 64 255).toNat ≤ 255 := by
    rw [BitVec.toNat_and]
    exact Nat.le_trans Nat.and_le_right (by decide)
  unfold andI
  have e : IntKind.i64.bits = 64 := rfl
  rw [IntKind.wrap_i64]
  have h2 : (BitVec.ofInt IntKind.i64.bits x &&& BitVec.ofInt IntKind.i64.bits 255).toNat ≤ 255 := h
  omega
namespace E
theorem constV_ptr : constV (.pointer none) = .c (.v (.pointer none)) := rfl
theorem GO_ptr {st : St} {rs : List Loc} {g : List Loc → V → Prop} : GO (.const (.pointer none)) st rs g () = g rs (.c (.v (.pointer none))) := rfl
theorem b_remA {P : Program} {dr : Bool} {t : TypeId} {ik : IntKind} {m n : Int} {k : V → M} {st : St} {rs : List Loc} {K : List Loc → Ws → Prop} : WQ P dr (bin2 P .rem t (.c (.v (.int ik m))) (.c (.v (.int ik n))) k) st rs K () = (n ≠ 0 ∧ WQ P dr (k (.c (.v (.int ik (m.tmod n))))) st rs K ()) := by
  by_cases hn : n = 0
  · subst hn; simp [bin2, binM, intBin, E.wq_bad]
  · simp [bin2, binM, intBin, hn]
theorem evh_recut {H : K → Option Hdr} {P : Program} {n np : Nat} {c : Code} {KK : KX} {L : Ws} {ver m : Nat} {e : Ent} (t off : Nat) (k k' : K) (hk : np ≤ k'.1) (hoff : off ≠ 0) (hs : ofL L (.s t) = .v (.c (.r k ver [] off m))) (he : ofL L (.k k) = .e e) (hf : ofL L (.k k') = .none) (hsc : scalEs e.es = true) (hm : off + m ≤ e.es.length)
    (h : EVH H P n np c ((.s t, .v (.c (.r k' 0 [] 0 m))) :: (.k k', .e ⟨0, e.sz, (e.es.drop off).take m⟩) :: (.k k, .gone) :: L) KK ()) : EVH H P n np c L KK () := by
  intro cx Hd a w hH h0 hr
  obtain ⟨Hd', hr'⟩ := recut_rel hr hs he hf (by
    cases hq : cx.H0 k' with
    | none => rfl
    | some hh => exact absurd (h0 k' hh hq) (by omega)) hsc hm
  rw [app_ofL] at hr'
  exact h cx Hd' a w hH h0 hr'
end E
end Go.Abs

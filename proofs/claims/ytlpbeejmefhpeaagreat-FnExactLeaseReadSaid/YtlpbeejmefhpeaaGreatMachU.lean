/- A part of the machine by itself. No condition. -/
import Derived.Test.YtlpbeejmefhpeaaGreatMachFive
import Derived.Shelf.Spec.SlicesInsertGrow
set_option linter.unusedVariables false
set_option linter.unusedSimpArgs false
set_option linter.constructorNameAsVariable false
namespace Go.Abs
open Go
theorem run_copy_sz {P : Program} (w : World) (dT sT ty elem : TypeId) (k b o dLen dCap : Nat) (a : Addr) (sLen sCap : Nat) (cs : List Value)
    (hu : P.underlying dT = some (.slice elem)) (hs : (P.info? elem).map (·.size) = some k) (hn : cs.length = Nat.min sLen dLen * k)
    (hsrc : ∀ j v, cs[j]? = some v → w.cell? (a.add j) = some v) (hc : ∀ j, j < cs.length → (w.cell? ⟨b, o + j, none⟩).isSome = true) (hf : ∀ j, j < cs.length → w.frozen? ⟨b, o + j, none⟩ = false) (h1 : ∀ v ∈ cs, v.oneCell' = true) :
    (Builtin.copy_ #[dT, sT] ty #[.slice (some ⟨b, o, none⟩) dLen dCap, .slice (some a) sLen sCap]).run P w = .ok (goInt (Nat.min sLen dLen)) (w.setCells b o cs) := by
  have hl := run_loadCells_list (P := P) w a cs hsrc
  have hst := run_storeCells_cells (P := P) b o cs 0 w (by simpa using hc) (by simpa using hf) h1
  cases hq : P.info? elem with
  | none => simp [hq] at hs
  | some i =>
    have hi : i.size = k := by simpa [hq] using hs
    simp [Builtin.copy_, run_underlying hu, Builtin.lenOf, Builtin.firstCells, sizeOf, typeInfo, hq, hi, ← hn, hl, hst]
theorem run_overlaps_row {P : Program} (w : World) (tS tR e : TypeId) (ht : P.underlying tS = some (.slice e)) (size : Nat) (hz : ∀ w, (Go.sizeOf e).run P w = .ok size w)
    (a b : Addr) (la ca lb cb : Nat) (hne : a.block ≠ b.block) (tA tB : TypeId) (kA kB : Nat)
    (hsa : w.shape? a.block = some (tA, kA)) (hsb : w.shape? b.block = some (tB, kB)) (hkA : kA ≠ 0) (hkB : kB ≠ 0)
    (hfb : w.frozen? b = false) (hfe : w.frozen? { block := b.block, off := kB } = false) :
    (Extern.SlicesOverlaps.overlaps #[tS, tS] #[tR] #[.slice (some a) la ca, .slice (some b) lb cb]).run P w = .ok (.bool false) w := by
  have hnb : (a.block != b.block) = true := by simpa using hne
  have hnb' : (a.block == b.block) = false := by simpa using hne
  change Sem.run P (α := Value) (do
    let some t := (#[tS, tS] : Array TypeId)[0]? | stuck "slices.overlaps: no parameter types"
    let .slice elem ← underlying t | stuck "slices.overlaps: slice type expected"
    let size ← sizeOf elem
    match (some a : Option Addr), (some b : Option Addr) with
    | some a, some b =>
      if la = 0 ∨ lb = 0 ∨ size = 0 then pure (Value.bool false)
      else if a.block != b.block && (← frozen a) && (← frozen b) then unsupported .addressObserved
      else do
        if a.block != b.block then do
          noView a; noView b
          if ← mayBeOne a b then return Value.bool ((← choose (.extern "sameAddr.stringBytes" 2)) == 1)
        pure (Value.bool (a.block == b.block && a.off < b.off + lb * size && b.off < a.off + la * size))
    | _, _ => pure (Value.bool false)) w = _
  by_cases h0 : la = 0 ∨ lb = 0 ∨ size = 0
  · simp [run_underlying ht, hz, h0]
  · cases kA with
    | zero => exact absurd rfl hkA
    | succ kA =>
      cases kB with
      | zero => exact absurd rfl hkB
      | succ kB => simp [run_underlying ht, hz, h0, hnb, hnb', frozen, noView, viewAt, mayBeOne, stringish, shape, Sem.run, hsa, hsb, hfb, hfe]
section
variable {α : Type} {f : α → List Value} {k : Nat}
theorem cf_len (hf : ∀ a, (f a).length = k) : ∀ l : List α, (l.flatMap f).length = l.length * k
  | [] => by simp
  | a :: l => by rw [List.flatMap_cons, List.length_append, hf, cf_len hf l, List.length_cons, Nat.add_mul]; omega
theorem cf_at (hf : ∀ a, (f a).length = k) : ∀ (l : List α) (i j : Nat) (a : α) (v : Value), l[i]? = some a → (f a)[j]? = some v → (l.flatMap f)[i * k + j]? = some v
  | [], i, j, a, v, h, _ => by simp at h
  | b :: l, 0, j, a, v, h, hv => by
    simp only [List.getElem?_cons_zero, Option.some.injEq] at h
    subst h
    have := (List.getElem?_eq_some_iff.1 hv).1
    rw [List.flatMap_cons, Nat.zero_mul, Nat.zero_add, List.getElem?_append_left this]
    exact hv
  | b :: l, i + 1, j, a, v, h, hv => by
    simp only [List.getElem?_cons_succ] at h
    rw [List.flatMap_cons, List.getElem?_append_right (by rw [hf, Nat.add_mul]; omega), hf, show (i + 1) * k + j - k = i * k + j by rw [Nat.add_mul]; omega]
    exact cf_at hf l i j a v h hv
theorem cf_of (hf : ∀ a, (f a).length = k) : ∀ (l : List α) (m : Nat) (v : Value), (l.flatMap f)[m]? = some v → ∃ i j a, m = i * k + j ∧ l[i]? = some a ∧ (f a)[j]? = some v
  | [], m, v, h => by simp at h
  | b :: l, m, v, h => by
    rw [List.flatMap_cons] at h
    by_cases hm : m < (f b).length
    · rw [List.getElem?_append_left hm] at h
      exact ⟨0, m, b, by simp, rfl, h⟩
    · rw [List.getElem?_append_right (by omega)] at h
      obtain ⟨i, j, a, h1, h2, h3⟩ := cf_of hf l _ v h
      refine ⟨i + 1, j, a, ?_, h2, h3⟩
      rw [Nat.add_mul]
      rw [hf] at h1 hm
      omega
theorem cf_split (l : List α) (i : Nat) : l.flatMap f = (l.take i).flatMap f ++ (l.drop i).flatMap f := by
  rw [← List.flatMap_append, List.take_append_drop]
theorem cf_take (hf : ∀ a, (f a).length = k) (l : List α) (i : Nat) (hi : i ≤ l.length) : (l.take i).flatMap f = (l.flatMap f).take (i * k) := by
  have hl : ((l.take i).flatMap f).length = i * k := by rw [cf_len hf, List.length_take, Nat.min_eq_left hi]
  rw [cf_split (f := f) l i]
  exact (List.take_left' hl).symm
theorem cf_drop (hf : ∀ a, (f a).length = k) (l : List α) (i : Nat) (hi : i ≤ l.length) : (l.drop i).flatMap f = (l.flatMap f).drop (i * k) := by
  have hl : ((l.take i).flatMap f).length = i * k := by rw [cf_len hf, List.length_take, Nat.min_eq_left hi]
  rw [cf_split (f := f) l i]
  exact (List.drop_left' hl).symm
theorem row_of_flat {cx : Cx} {w : World} {ch : Nat → Nat → Hdr} (hf : ∀ a, (f a).length = k) {l : List α} {b o cap : Nat} {c : Array Value} {E : TypeId} (hl : l.length ≤ cap) (hw : w.heap[b]? = some (.cells c E (0, 0))) (hs : o + cap * k ≤ c.size)
    (hc : ∀ (m : Nat) (v : Value), (l.flatMap f)[m]? = some v → c[o + m]? = some v) : RowOK cx w ch k (l.map fun a => (f a).map .v) ⟨b, o, cap⟩ := by
  refine ⟨by simpa using hl, fun _ => ⟨c, E, hw, hs, fun i e he => ?_⟩⟩
  rw [List.getElem?_map] at he
  cases ha : l[i]? with
  | none => simp [ha] at he
  | some a =>
    simp only [ha, Option.map_some, Option.some.injEq] at he
    subst he
    refine ⟨by simp [hf], fun j t ht => ?_⟩
    rw [List.getElem?_map] at ht
    cases hv : (f a)[j]? with
    | none => simp [hv] at ht
    | some v =>
      simp only [hv, Option.map_some, Option.some.injEq] at ht
      subst ht
      exact ⟨v, hc _ _ (cf_at hf l i j a v ha hv), rfl⟩
theorem flat_of_row {cx : Cx} {w : World} {ch : Nat → Nat → Hdr} (hf : ∀ a, (f a).length = k) {l : List α} {h : Hdr} (hr : RowOK cx w ch k (l.map fun a => (f a).map .v) h) (hc : h.cap ≠ 0) :
    ∃ c E, w.heap[h.b]? = some (.cells c E (0, 0)) ∧ h.o + h.cap * k ≤ c.size ∧ ∀ (m : Nat) (v : Value), (l.flatMap f)[m]? = some v → c[h.o + m]? = some v := by
  obtain ⟨c, E, h1, h2, h3⟩ := hr.2 hc
  refine ⟨c, E, h1, h2, fun m v hm => ?_⟩
  obtain ⟨i, j, a, rfl, ha, hv⟩ := cf_of hf l m v hm
  obtain ⟨y, hy, hT⟩ := (h3 i _ (by rw [List.getElem?_map, ha]; rfl)).2 j (.v v) (by rw [List.getElem?_map, hv]; rfl)
  rw [hy]
  exact congrArg some hT
theorem flat_of_bor {w : World} {X : Nat → Prop} (hf : ∀ a, (f a).length = k) {l : List α} {b o n cap : Nat} (hr : Bor w X (.slice (some ⟨b, o, none⟩) n cap) k (l.map fun a => (f a).map .v)) :
    ∀ (m : Nat) (v : Value), (l.flatMap f)[m]? = some v → w.cell? ⟨b, o + m, none⟩ = some v := by
  intro m v hm
  obtain ⟨i, j, a, rfl, ha, hv⟩ := cf_of hf l m v hm
  have g1 : (l.map fun a => (f a).map T.v)[i]? = some ((f a).map .v) := by rw [List.getElem?_map, ha]; rfl
  have g2 : ((f a).map T.v)[j]? = some (.v v) := by rw [List.getElem?_map, hv]; rfl
  cases hr with
  | mk _ _ _ _ b' o' g hl hsz hA hc ht =>
    have h1 := hc i _ j _ g1 g2
    have h2 := ht i _ j _ g1 g2
    generalize g i j = y at h1 h2
    cases h2
    rcases hA with hA | ⟨hA, _⟩
    · rw [hA] at g1; simp at g1
    · simp only [Option.some.injEq, Addr.mk.injEq, and_true] at hA
      rw [hA.1, hA.2]; exact h1
end
theorem two_cells {w : World} {b off : Nat} {c : Array Value} {E : TypeId} (hb : w.heap[b]? = some (.cells c E (0, 0))) {pre mid post : List Value} (hsz : off + (pre.length + mid.length + post.length) ≤ c.size)
    (hpre : ∀ (j : Nat) (v : Value), pre[j]? = some v → c[off + j]? = some v) {p q : Nat} (hp : p = off + pre.length) (hq : q = off + pre.length + mid.length) :
    (∃ c', ((w.setCells b q post).setCells b p mid).heap[b]? = some (.cells c' E (0, 0)) ∧ c'.size = c.size ∧ ∀ (j : Nat) (v : Value), (pre ++ mid ++ post)[j]? = some v → c'[off + j]? = some v) ∧
    (∃ c', (((w.setCells b p mid).drew).setCells b q post).heap[b]? = some (.cells c' E (0, 0)) ∧ c'.size = c.size ∧ ∀ (j : Nat) (v : Value), (pre ++ mid ++ post)[j]? = some v → c'[off + j]? = some v) := by
  subst hp hq
  have split3 : ∀ (j : Nat) (v : Value), (pre ++ mid ++ post)[j]? = some v → (j < pre.length ∧ pre[j]? = some v) ∨ (∃ t, j = pre.length + t ∧ t < mid.length ∧ mid[t]? = some v) ∨ (∃ t, j = pre.length + mid.length + t ∧ t < post.length ∧ post[t]? = some v) := by
    intro j v h
    by_cases h1 : j < pre.length
    · rw [List.append_assoc, List.getElem?_append_left h1] at h; exact .inl ⟨h1, h⟩
    · rw [List.append_assoc, List.getElem?_append_right (by omega)] at h
      by_cases h2 : j - pre.length < mid.length
      · rw [List.getElem?_append_left h2] at h; exact .inr (.inl ⟨_, by omega, h2, h⟩)
      · rw [List.getElem?_append_right (by omega)] at h
        exact .inr (.inr ⟨_, by omega, (List.getElem?_eq_some_iff.1 h).1, h⟩)
  constructor
  · obtain ⟨c1, a1, a2, a3, a4⟩ := setCellsW_block post w b (off + pre.length + mid.length) c E hb
    obtain ⟨c2, b1, b2, b3, b4⟩ := setCellsW_block mid _ b (off + pre.length) c1 E a1
    rw [setCellsW_eq, setCellsW_eq] at b1
    refine ⟨c2, b1, by omega, fun j v h => ?_⟩
    rcases split3 j v h with ⟨h1, h2⟩ | ⟨t, rfl, h1, h2⟩ | ⟨t, rfl, h1, h2⟩
    · rw [b3 _ (.inl (by omega)), a3 _ (.inl (by omega))]; exact hpre j v h2
    · rw [show off + (pre.length + t) = off + pre.length + t by omega, b4 t (by omega) h1]; exact h2
    · rw [b3 _ (.inr (by omega)), show off + (pre.length + mid.length + t) = off + pre.length + mid.length + t by omega, a4 t (by omega) h1]; exact h2
  · obtain ⟨c1, a1, a2, a3, a4⟩ := setCellsW_block mid w b (off + pre.length) c E hb
    rw [setCellsW_eq] at a1
    obtain ⟨c2, b1, b2, b3, b4⟩ := setCellsW_block post (w.setCells b (off + pre.length) mid).drew b (off + pre.length + mid.length) c1 E a1
    rw [setCellsW_eq] at b1
    refine ⟨c2, b1, by omega, fun j v h => ?_⟩
    rcases split3 j v h with ⟨h1, h2⟩ | ⟨t, rfl, h1, h2⟩ | ⟨t, rfl, h1, h2⟩
    · rw [b3 _ (.inl (by omega)), a3 _ (.inl (by omega))]; exact hpre j v h2
    · rw [b3 _ (.inl (by omega)), show off + (pre.length + t) = off + pre.length + t by omega, a4 t (by omega) h1]; exact h2
    · rw [show off + (pre.length + mid.length + t) = off + pre.length + mid.length + t by omega, b4 t (by omega) h1]; exact h2
theorem Keep.setCells' {cx : Cx} {w : World} (h : Keep cx w) {b o : Nat} {vs : List Value} (hb : cx.w0.heap.size ≤ b ∨ cx.X b) : Keep cx (w.setCells b o vs) := by
  rw [← setCellsW_eq]; exact h.setCells hb
theorem Fn.rowG {P : Program} {f k : Nat} {es es' ev : List (List T)} {i : Value} (he : Enters P f) (hes : (∀ (x : Nat) (e : List T), es[x]? = some e → ∀ (y : Nat) (t : T), e[y]? = some t → ∀ z zs, t ≠ .s true z zs)) (hes' : (∀ (x : Nat) (e : List T), es'[x]? = some e → ∀ (y : Nat) (t : T), e[y]? = some t → ∀ z zs, t ≠ .s true z zs))
    (ho : ownEs es' = true)
    (h : ∀ (w : World) (X : Nat → Prop) (a : Option Addr) (b o c : Nat) (y : Value), (∀ ch, RowOK ⟨w, X, fun _ => none⟩ w ch k es ⟨b, o, c⟩) → (c ≠ 0 → a = some ⟨b, o, none⟩ ∧ b < w.heap.size ∧ X b) → Bor w X y k ev →
      Calls P f #[.slice a es.length c, i, y] w fun e w' => ∃ (h' : Hdr) (a' : Option Addr), e = .returned (.slice a' es'.length h'.cap) ∧ (h'.cap ≠ 0 → a' = some ⟨h'.b, h'.o, none⟩) ∧ (∀ ch, RowOK ⟨w, X, fun _ => none⟩ w' ch k es' h') ∧ Keep ⟨w, X, fun _ => none⟩ w' ∧ (h'.cap ≠ 0 → h'.b < w'.heap.size ∧ (w.heap.size ≤ h'.b ∨ X h'.b))) :
    Fn P f [.c (.s true k es), .c (.v i), .c (.s false k ev)] [.c .d, .c .d, .c .d] [.c (.s true k es')] := by
  refine ⟨he, rfl, by simp [resOK, A.ts, ownE, ownT, ho], fun w X vals Hd hv hx hh => ?_⟩
  have x0 := hx 0 (.c (.r (0, 0) 0 [] 0 es.length)) (by simp [entrySt, entryV, entryC])
  have x1 := hx 1 (.c (.v i)) (by simp [entrySt, entryV, entryC])
  have x2 := hx 2 (.c (.b k ev)) (by simp [entrySt, entryV, entryC])
  simp only [List.length_cons, List.length_nil] at hv
  have hvals : vals = #[vals.getD 0 undef, vals.getD 1 undef, vals.getD 2 undef] := by
    apply Array.ext
    · simpa using hv
    · intro j h1 h2
      have : j = 0 ∨ j = 1 ∨ j = 2 := by simp at h2; omega
      rcases this with rfl | rfl | rfl <;> simp [Array.getD_eq_getD_getElem?, Array.getElem?_eq_getElem h1]
  generalize vals.getD 0 undef = v0 at x0 hvals
  generalize vals.getD 1 undef = v1 at x1 hvals
  generalize vals.getD 2 undef = v2 at x2 hvals
  subst hvals
  cases x0 with | c _ _ x0 =>
  cases x1 with | c _ _ x1 =>
  cases x2 with | c _ _ x2 =>
  cases x1
  cases x2 with | b _ _ _ hB =>
  cases x0 with | r _ _ _ _ _ a cap hk hl hval =>
  have hent : entrySt [.c (.s true k es), .c (.v i), .c (.s false k ev)] (.k (0, 0)) = .e ⟨0, k, es⟩ := by simp [entrySt, cellOf, A.ts]
  have hrow := row_of hh hent (show rowAt k es [] = some (k, es) by simp [rowAt])
  obtain ⟨_, hcap⟩ := hval k es (Hd (0, 0) []) ⟨⟨0, k, es⟩, hent, .inl rfl, by simp [rowAt], rfl⟩
  have hat : (HeapOf (entrySt [.c (.s true k es), .c (.v i), .c (.s false k ev)]) Hd).at (.inl (0, 0)) [] k es (Hd (0, 0) []) := ⟨⟨k, es, Hd (0, 0)⟩, by simp [HeapOf, hent], by simp [rowAt], rfl⟩
  refine Calls.mono (h w X a (Hd (0, 0) []).b (Hd (0, 0) []).o cap v2 (fun ch => ⟨hl, fun hc => ?_⟩) (fun hc => ?_) hB) ?_
  · dsimp only at hc
    have hc' : (Hd (0, 0) []).cap ≠ 0 := by have := (hcap hc).2; omega
    obtain ⟨c, E, q1, q2, q3⟩ := hrow.2 hc'
    refine ⟨c, E, q1, ?_, fun x e hx => ⟨(q3 x e hx).1, fun j t ht => ?_⟩⟩
    · have := (hcap hc).2
      have : cap * k ≤ (Hd (0, 0) []).cap * k := Nat.mul_le_mul_right _ (by omega)
      simp only []
      omega
    · obtain ⟨y, hy, hT⟩ := (q3 x e hx).2 j t ht
      refine ⟨y, hy, ?_⟩
      cases t with
      | v _ => exact hT
      | d => exact hT
      | s own z zs =>
        cases own with
        | false => exact hT
        | true => exact absurd rfl (hes x e hx j _ ht z zs)
  · have hc' : (Hd (0, 0) []).cap ≠ 0 := by have := (hcap hc).2; omega
    have hb := hh.blk _ _ _ _ _ hat hc'
    refine ⟨by rw [(hcap hc).1, Nat.zero_mul, Nat.add_zero], hb.1, ?_⟩
    rcases hb.2 with hb2 | hb2
    · exact absurd hb2 (Nat.not_le.2 hb.1)
    · exact hb2
  · rintro e w' ⟨h', a', rfl, ha', hr', hkp, hb'⟩
    have hex : ∀ (g : Ix → Path → Hdr) (j : Ix) (r : HRow), exitHeap [.c .d, .c .d, .c .d] [.c (.s true k es')] g j = some r → j = .inr (0, 0) ∧ r = ⟨k, es', g (.inr (0, 0))⟩ := by
      intro g j r hj
      cases j with
      | inl q => obtain ⟨x, y⟩ := q; rcases x with _ | _ | _ | x <;> rcases y with _ | y <;> simp [exitHeap, cellOf, A.ts] at hj
      | inr q =>
        obtain ⟨x, y⟩ := q
        rcases x with _ | x <;> rcases y with _ | y <;> simp [exitHeap, cellOf, A.ts] at hj
        exact ⟨rfl, hj.symm⟩
    have hpth : ∀ p sz zs, rowAt k es' p = some (sz, zs) → p = [] ∧ sz = k ∧ zs = es' := by
      intro p sz zs hp
      cases p with
      | nil => simp only [rowAt, Option.some.injEq, Prod.mk.injEq] at hp; exact ⟨rfl, hp.1.symm, hp.2.symm⟩
      | cons q p => rw [noOwn_rowAt hes'] at hp; cases hp
    refine ⟨_, fun _ _ => h', rfl, ⟨fun j r p sz zs hj hp => ?_, fun j p sz zs g j' p' sz' zs' g' h1 h2 _ _ _ => ?_, fun j p sz zs g h1 hc => ?_⟩, hkp, ?_, fun q _ hq => ?_⟩
    · obtain ⟨rfl, rfl⟩ := hex _ _ _ hj
      obtain ⟨rfl, rfl, rfl⟩ := hpth _ _ _ hp
      exact hr' _
    · obtain ⟨r, hj, hp, _⟩ := h1
      obtain ⟨rfl, rfl⟩ := hex _ _ _ hj
      obtain ⟨r2, hj2, hp2, _⟩ := h2
      obtain ⟨rfl, rfl⟩ := hex _ _ _ hj2
      exact ⟨rfl, (hpth _ _ _ hp).1.trans (hpth _ _ _ hp2).1.symm⟩
    · obtain ⟨r, hj, hp, hg⟩ := h1
      subst hg
      obtain ⟨rfl, rfl⟩ := hex _ _ _ hj
      exact hb' hc
    · exact ⟨a', rfl, ha'⟩
    · obtain ⟨x, y⟩ := q; rcases x with _ | _ | _ | x <;> rcases y with _ | y <;> simp [cellOf, A.ts] at hq
end Go.Abs

/- A small abstract machine over the kit's wp, part of it: states of slots and owned rows, and what each operation does to them. No condition. -/
import Derived.Test.YtijifinpifomcaaMachOne
set_option linter.unusedVariables false
set_option linter.unusedSimpArgs false
set_option linter.constructorNameAsVariable false
set_option linter.unusedSectionVars false
namespace Go.Abs
open Go
variable [Amb]
theorem ovl_append (a b : Ws) (l : Loc) : ovl (a ++ b) l = match ovl a l with | some x => some x | none => ovl b l := by
  induction a with
  | nil => rfl
  | cons x a ih =>
    obtain ⟨l', v⟩ := x
    simp only [List.cons_append, ovl]
    split
    · rfl
    · exact ih
theorem app_append (a b : Ws) (st : St) : app (a ++ b) st = app a (app b st) := by
  funext l
  simp only [app, ovl_append]
  cases ovl a l <;> rfl
theorem app_cons (l : Loc) (x : X) (ws : Ws) (st : St) : app ((l, x) :: ws) st = app [(l, x)] (app ws st) := app_append [(l, x)] ws st
theorem app_one_same (l : Loc) (x : X) (st : St) : app [(l, x)] st l = x := by simp [app, ovl]
theorem app_one_ne {l l' : Loc} (x : X) (st : St) (h : l' ≠ l) : app [(l, x)] st l' = st l' := by simp [app, ovl, h]
theorem Rel.step {cx : Cx} {n : Nat} {st st' : St} {Hd Hd' : K → Path → Hdr} {a : Act} {w w' : World} (h : Rel cx n st Hd a w) (hs : ∀ t, st' (.s t) = st (.s t)) (hk : ∀ k ver, known st k ver → known st' k ver)
    (hv : ∀ k ver p sz es g, known st k ver → valid st' Hd' k ver p sz es g → ∃ es0, valid st Hd k ver p sz es0 g ∧ es0.length = es.length) (hheap : HeapOK cx (HeapOf st' Hd') w') (hkeep : Keep cx w') : Rel cx n st' Hd' a w' :=
  ⟨h.defers, h.size, fun t v hst => by
    rw [hs] at hst
    obtain ⟨h1, h2⟩ := h.slots t v hst
    exact ⟨h1, h2.mono hk hv⟩, hheap, hkeep, fun k h0 h1 => by
    obtain ⟨h2, h3⟩ := h.hdr k h0 h1
    have hkn : known st k 0 := ⟨h2, fun _ _ => Nat.zero_le _⟩
    refine ⟨(hk k 0 hkn).1, fun e he => ?_⟩
    obtain ⟨es0, ⟨e0, k1, _, _, k4⟩, _⟩ := hv k 0 [] e.sz e.es (Hd' k []) hkn ⟨e, he, .inl rfl, rfl, rfl⟩
    rw [← k4]
    exact h3 e0 k1, h.amb⟩
theorem HeapOK.view {cx : Cx} {H : Heap} {w : World} (hk : HeapOK cx H w) {i d : Ix} {r : HRow} {off len : Nat} {h0 : Hdr} (hbase : cx.w0.heap.size ≤ w.heap.size) (hi : H i = some r) (hd : d ≠ i) (hf : H d = none)
    (hl : off + len ≤ r.es.length) (hcap : len ≤ h0.cap) (hh : h0.cap ≠ 0 → h0.b = (r.hd []).b ∧ h0.o = (r.hd []).o + off * r.sz ∧ off + h0.cap ≤ (r.hd []).cap) :
    HeapOK cx ((H.set i none).set d (some ⟨r.sz, (r.es.drop off).take len, appHd h0 off len r.hd (fun _ => ⟨0, 0, 0⟩)⟩)) w := by
  refine hk.append (i := i) (i2 := i) (d := d) (n := r.sz) (news := []) hbase hi rfl hl (.inl (fun x e h => by simp at h)) (by rw [Heap.set_same, List.append_nil]) ?_ ?_ (Nat.le_refl _) (by simpa using hcap) ?_ (fun _ _ _ => rfl) ?_ (fun _ => .inr rfl)
  · intro j s hj h
    rw [Heap.set_ne _ _ hj] at h
    by_cases hji : j = i
    · subst hji; rw [Heap.set_same] at h; simp at h
    · rw [Heap.set_ne _ _ hji] at h; exact ⟨h, hji⟩
  · exact .inr (by rw [Heap.set_ne _ _ (Ne.symm hd), Heap.set_same])
  · intro hc
    obtain ⟨h1, h2, h3⟩ := hh hc
    have hrow := hk.rows i r [] r.sz r.es hi rfl
    obtain ⟨c, E, k1, k2, k3⟩ := hrow.2 (by omega)
    refine ⟨c, E, by rw [h1]; exact k1, ?_, ?_, fun x e h => by simp at h⟩
    · have : (off + h0.cap) * r.sz ≤ (r.hd []).cap * r.sz := Nat.mul_le_mul_right _ h3
      rw [Nat.add_mul] at this
      omega
    · intro x y c' E' hx hy hc'
      rw [k1] at hc'
      injection hc' with hc'
      injection hc' with hc' _ _
      subst hc'
      rw [h2, Nat.add_mul]
      congr 1
      omega
  · intro hc
    obtain ⟨h1, h2, h3⟩ := hh hc
    exact .inl ⟨h1, by omega⟩
theorem HeapOK.empty {cx : Cx} {H : Heap} {w : World} (hk : HeapOK cx H w) (hbase : cx.w0.heap.size ≤ w.heap.size) (d : Ix) (sz : Nat) :
    HeapOK cx (H.set d (some ⟨sz, [], fun _ => ⟨0, 0, 0⟩⟩)) w := by
  refine hk.remake (i := d) (Heap.set_same _ _ _) (fun j r hj h => by rw [Heap.set_ne _ _ hj] at h; exact h) (Nat.le_refl _) hbase (fun _ _ _ _ _ _ _ _ => rfl) ?_ (fun p => (d, p)) (fun p q h => by simpa using h) (fun p sz es _ h => absurd rfl h)
  intro p sz es h
  cases p with
  | nil => simp only [rowAt, Option.some.injEq, Prod.mk.injEq] at h; obtain ⟨rfl, rfl⟩ := h; exact ⟨by simp, fun h => absurd rfl h⟩
  | cons x p => obtain ⟨i, j⟩ := x; simp [rowAt, cellAt] at h
def heapFl (st : St) (Hd : K → Path → Hdr) (fl : Nat → Option HRow) : Heap := fun
  | .inl k => HeapOf st Hd (.inl k)
  | .inr (j, 0) => fl j
  | .inr (_, _ + 1) => none
def setFl (fl : Nat → Option HRow) (j : Nat) (x : Option HRow) : Nat → Option HRow := fun i => if i = j then x else fl i
theorem heapFl_none (st : St) (Hd : K → Path → Hdr) : heapFl st Hd (fun _ => none) = HeapOf st Hd := by
  funext i
  cases i with
  | inl k => rfl
  | inr x => obtain ⟨a, b⟩ := x; cases b <;> rfl
theorem heapFl_setFl (st : St) (Hd : K → Path → Hdr) (fl : Nat → Option HRow) (j : Nat) (x : Option HRow) : heapFl st Hd (setFl fl j x) = (heapFl st Hd fl).set (.inr (j, 0)) x := by
  funext i
  cases i with
  | inl k => simp [heapFl, Heap.set]
  | inr y =>
    obtain ⟨a, b⟩ := y
    cases b with
    | zero => simp [heapFl, Heap.set, setFl]
    | succ b => simp [heapFl, Heap.set]
theorem heapFl_app {st : St} {Hd : K → Path → Hdr} {fl : Nat → Option HRow} {k : K} {x : X} : heapFl (app [(.k k, x)] st) Hd fl = (heapFl st Hd fl).set (.inl k) (match x with | .e e => some ⟨e.sz, e.es, Hd k⟩ | _ => none) := by
  funext i
  cases i with
  | inl k' =>
    by_cases hk : k' = k
    · subst hk
      simp only [heapFl, HeapOf, app_one_same, Heap.set_same]
      cases x <;> rfl
    · have h1 : (Sum.inl k' : Ix) ≠ .inl k := fun e => hk (Sum.inl.inj e)
      have h2 : (Loc.k k') ≠ .k k := fun e => hk (Loc.k.inj e)
      rw [Heap.set_ne _ _ h1]
      simp only [heapFl, HeapOf, app_one_ne _ _ h2]
  | inr y => obtain ⟨a, b⟩ := y; rw [Heap.set_ne _ _ (by simp)]; cases b <;> rfl
def CellT (cx : Cx) (fl : Nat → Option HRow) (j : Nat) (t : T) (y : Value) : Prop :=
  (∃ r, fl j = some r ∧ t = .s true r.sz r.es ∧ TOK cx (r.hd []) t y) ∨ (fl j = none ∧ (∀ z zs, t ≠ .s true z zs) ∧ ∀ h, TOK cx h t y)
structure Fewer (st st' : St) (Hd Hd' : K → Path → Hdr) : Prop where
  slots : ∀ t, st' (.s t) = st (.s t)
  kn : ∀ k ver, known st k ver → known st' k ver
  va : ∀ k ver p sz es g, known st k ver → valid st' Hd' k ver p sz es g → ∃ es0, valid st Hd k ver p sz es0 g ∧ es0.length = es.length
theorem Fewer.refl (st : St) (Hd : K → Path → Hdr) : Fewer st st Hd Hd := ⟨fun _ => rfl, fun _ _ h => h, fun _ _ _ _ es _ _ h => ⟨es, h, rfl⟩⟩
theorem Fewer.trans {a b c : St} {A B C : K → Path → Hdr} (h : Fewer a b A B) (g : Fewer b c B C) : Fewer a c A C :=
  ⟨fun t => (g.slots t).trans (h.slots t), fun k v x => g.kn k v (h.kn k v x), fun k ver p sz es gg hk hv => by
    obtain ⟨e1, h1, l1⟩ := g.va k ver p sz es gg (h.kn _ _ hk) hv
    obtain ⟨e2, h2, l2⟩ := h.va k ver p sz e1 gg hk h1
    exact ⟨e2, h2, l2.trans l1⟩⟩
theorem Fewer.cok {cx : Cx} {st st' : St} {Hd Hd' : K → Path → Hdr} (h : Fewer st st' Hd Hd') {c : C} {y : Value} (hc : COK cx st Hd c y) : COK cx st' Hd' c y := hc.mono h.kn h.va
theorem Fewer.vok {cx : Cx} {st st' : St} {Hd Hd' : K → Path → Hdr} (h : Fewer st st' Hd Hd') {c : V} {y : Value} (hc : VOK cx st Hd c y) : VOK cx st' Hd' c y := hc.mono h.kn h.va
theorem fewer_gone {st : St} {Hd : K → Path → Hdr} {k : K} {e : Ent} (h : st (.k k) = .e e) : Fewer st (app [(.k k, .gone)] st) Hd Hd := by
  refine ⟨fun t => app_one_ne _ _ (by simp), fun k' ver hk => ?_, fun k' ver p sz es g hk hv => ?_⟩
  · by_cases hkk : k' = k
    · subst hkk; exact ⟨by rw [app_one_same]; simp, fun e' he' => by rw [app_one_same] at he'; simp at he'⟩
    · have h2 : (Loc.k k') ≠ .k k := fun e => hkk (Loc.k.inj e)
      simp only [known, app_one_ne _ _ h2]; exact hk
  · obtain ⟨e', h1, h2, h3, h4⟩ := hv
    by_cases hkk : k' = k
    · subst hkk; rw [app_one_same] at h1; simp at h1
    · have h5 : (Loc.k k') ≠ .k k := fun e => hkk (Loc.k.inj e)
      rw [app_one_ne _ _ h5] at h1
      exact ⟨es, ⟨e', h1, h2, h3, h4⟩, rfl⟩
theorem fewer_row {st : St} {Hd : K → Path → Hdr} {k : K} {e : Ent} {es' : List (List T)} (h : st (.k k) = .e e) (hs : ∀ p sz es, rowAt e.sz es' p = some (sz, es) → ∃ es0, rowAt e.sz e.es p = some (sz, es0) ∧ es0.length = es.length) :
    Fewer st (app [(.k k, .e { e with es := es' })] st) Hd Hd := by
  refine ⟨fun t => app_one_ne _ _ (by simp), fun k' ver hk => ?_, fun k' ver p sz es g hk hv => ?_⟩
  · by_cases hkk : k' = k
    · subst hkk
      refine ⟨by rw [app_one_same]; simp, fun e' he' => ?_⟩
      rw [app_one_same] at he'
      obtain rfl := X.e.inj he'
      exact hk.2 e h
    · have h2 : (Loc.k k') ≠ .k k := fun e => hkk (Loc.k.inj e)
      simp only [known, app_one_ne _ _ h2]; exact hk
  · obtain ⟨e', h1, h2, h3, h4⟩ := hv
    by_cases hkk : k' = k
    · subst hkk
      rw [app_one_same] at h1
      obtain rfl := X.e.inj h1
      obtain ⟨es0, h5, h6⟩ := hs p sz es h3
      exact ⟨es0, ⟨e, h, h2, h5, h4⟩, h6⟩
    · have h5 : (Loc.k k') ≠ .k k := fun e => hkk (Loc.k.inj e)
      rw [app_one_ne _ _ h5] at h1
      exact ⟨es, ⟨e', h1, h2, h3, h4⟩, rfl⟩
theorem getE_inv {P : Program} {st : St} {ov : Ws} {k : K} {f : Ent → M} {Kc : Ws → Prop} (hm : (getE ov k f).wp P st Kc) : ∃ e, app ov st (.k k) = .e e ∧ (f e).wp P st Kc := by
  unfold getE at hm
  split at hm
  · rename_i e he; exact ⟨e, by simp [app, he], hm⟩
  · exact hm.elim
  · rename_i he
    simp only [M.wp] at hm
    cases hs : st (.k k) with
    | v v => rw [hs] at hm; exact hm.elim
    | gone => rw [hs] at hm; exact hm.elim
    | none => rw [hs] at hm; exact hm.elim
    | e e => rw [hs] at hm; exact ⟨e, by simp [app, he, hs], hm⟩
theorem getR_inv {P : Program} {st : St} {ov : Ws} {k : K} {ver : Nat} {p : Path} {f : Ent → Nat → List (List T) → M} {Kc : Ws → Prop} (hm : (getR ov k ver p f).wp P st Kc) :
    ∃ e sz es, app ov st (.k k) = .e e ∧ (p = [] ∨ e.ver = ver) ∧ rowAt e.sz e.es p = some (sz, es) ∧ (f e sz es).wp P st Kc := by
  obtain ⟨e, he, hm⟩ := getE_inv hm
  obtain ⟨h1, hm⟩ := hm
  cases hr : rowAt e.sz e.es p with
  | none => rw [hr] at hm; exact hm.elim
  | some x => obtain ⟨sz, es⟩ := x; rw [hr] at hm; exact ⟨e, sz, es, he, h1, hr, hm⟩
theorem path_split (x : Nat × Nat) (p : Path) : ∃ q a b, x :: p = q ++ [(a, b)] := by
  have h : x :: p ≠ [] := by simp
  refine ⟨(x :: p).dropLast, ((x :: p).getLast h).1, ((x :: p).getLast h).2, ?_⟩
  exact (List.dropLast_concat_getLast h).symm
theorem rowAt_snoc {sz : Nat} {es : List (List T)} {q : Path} {a b : Nat} {sz' : Nat} {es' : List (List T)} (h : rowAt sz es (q ++ [(a, b)]) = some (sz', es')) :
    ∃ s1 r1, rowAt sz es q = some (s1, r1) ∧ cellAt r1 a b = some (.s true sz' es') := by
  rw [rowAt_append] at h
  cases hq : rowAt sz es q with
  | none => simp [hq] at h
  | some x =>
    obtain ⟨s1, r1⟩ := x
    rw [hq] at h
    simp only [Option.bind_some, rowAt] at h
    cases hc : cellAt r1 a b with
    | none => simp [hc] at h
    | some t =>
      rw [hc] at h
      cases t with
      | v _ => simp at h
      | d => simp at h
      | s o z zs => cases o <;> simp at h; obtain ⟨rfl, rfl⟩ := h; exact ⟨s1, r1, rfl, hc⟩
theorem hole_row {sz0 : Nat} {es0 : List (List T)} {q : Path} {a b : Nat} {s1 : Nat} {r1 : List (List T)} (hq : rowAt sz0 es0 q = some (s1, r1)) (p : Path) (sz : Nat) (es : List (List T)) (h : rowAt sz0 (setRow es0 q (setCell r1 a b .d)) p = some (sz, es)) :
    ∃ es1, rowAt sz0 es0 p = some (sz, es1) ∧ es1.length = es.length := by
  rcases rowAt_setCellAt (r := ⟨sz0, es0, fun _ => ⟨0, 0, 0⟩⟩) hq (fun z zs e => T.noConfusion e) p sz es h with ⟨rfl, rfl, rfl⟩ | ⟨_, e1, h0, hl, _, _⟩
  · exact ⟨r1, hq, (setCell_length _ _ _ _).symm⟩
  · exact ⟨e1, h0, hl.symm⟩
theorem setFl_same (fl : Nat → Option HRow) (j : Nat) (x : Option HRow) : setFl fl j x j = x := by simp [setFl]
theorem setFl_ne (fl : Nat → Option HRow) {i j : Nat} (x : Option HRow) (h : i ≠ j) : setFl fl j x i = fl i := by simp [setFl, h]
theorem conv_ok {P : Program} {cx : Cx} {st : St} {Hd : K → Path → Hdr} {w : World} {ov : Ws} {kd : Option Nat} {c : C} {f : Ws → T → M} {Kc : Ws → Prop} {fl : Nat → Option HRow} {j : Nat} {y : Value}
    (hm : (conv ov kd c f).wp P st Kc) (hk : HeapOK cx (heapFl (app ov st) Hd fl) w) (hbase : cx.w0.heap.size ≤ w.heap.size) (hfl : fl j = none) (hc : COK cx (app ov st) Hd c y) :
    ∃ ov' t fl', Fewer (app ov st) (app ov' st) Hd Hd ∧ HeapOK cx (heapFl (app ov' st) Hd fl') w ∧ (∀ i, i ≠ j → fl' i = fl i) ∧ CellT cx fl' j t y ∧ y.oneCell' = true ∧ (f ov' t).wp P st Kc := by
  have hnone : heapFl (app ov st) Hd fl (.inr (j, 0)) = none := hfl
  cases hc with
  | v => exact ⟨ov, .v y, fl, .refl _ _, hk, fun _ _ => rfl, .inr ⟨hfl, fun _ _ h => T.noConfusion h, fun _ => rfl⟩, hm.1, hm.2⟩
  | b _ sz es hb => exact ⟨ov, .s false sz es, fl, .refl _ _, hk, fun _ _ => rfl, .inr ⟨hfl, fun _ _ h => by injection h with h _ _; simp at h, fun _ => hb⟩, by obtain ⟨a, cap, _, _, _, rfl, _⟩ := hb.inv; rfl, hm⟩
  | u => exact hm.elim
  | n =>
    cases kd with
    | none => exact hm.elim
    | some m =>
      refine ⟨ov, .s true m [], setFl fl j (some ⟨m, [], fun _ => ⟨0, 0, 0⟩⟩), .refl _ _, by rw [heapFl_setFl]; exact hk.empty hbase _ _, fun i hi => setFl_ne _ _ hi, .inl ⟨_, setFl_same _ _ _, rfl, ?_⟩, rfl, hm⟩
      exact ⟨none, rfl, fun h => absurd rfl h⟩
  | r k ver p off len a' cap hkn hle hv =>
    cases p with
    | nil =>
      obtain ⟨e, he, hm2⟩ := getE_inv hm
      obtain ⟨⟨hz1, hz2⟩, hm3⟩ := hm2
      subst hz1
      subst hz2
      obtain ⟨h1, h2⟩ := hv e.sz e.es _ ⟨e, he, .inl rfl, rfl, rfl⟩
      have hi : heapFl (app ov st) Hd fl (.inl k) = some ⟨e.sz, e.es, Hd k⟩ := by simp only [heapFl]; exact HeapOf_some he
      have hview := hk.view (d := .inr (j, 0)) (off := 0) (len := e.es.length) (h0 := ⟨(Hd k []).b, (Hd k []).o, cap⟩) hbase hi (by simp) hnone (by simp) hle (fun h => ⟨rfl, by simp, by simpa using (h2 h).2⟩)
      refine ⟨(.k k, .gone) :: ov, .s true e.sz e.es, setFl fl j (some ⟨e.sz, e.es, appHd ⟨(Hd k []).b, (Hd k []).o, cap⟩ 0 e.es.length (Hd k) (fun _ => ⟨0, 0, 0⟩)⟩), ?_, ?_, fun i hi => setFl_ne _ _ hi, .inl ⟨_, setFl_same _ _ _, rfl, ?_⟩, rfl, hm3⟩
      · rw [app_cons]; exact fewer_gone he
      · rw [app_cons, heapFl_setFl, heapFl_app]
        simpa using hview
      · exact ⟨a', rfl, fun h => by simpa [appHd] using (h2 h).1⟩
    | cons x p =>
      obtain ⟨q, a, b, hq⟩ := path_split x p
      have hm' : (getR ov k ver (x :: p) fun e sz es => .req (off = 0 ∧ len = es.length) (f ((.k k, .e { e with es := setAt e.es q e.sz a b .d }) :: ov) (.s true sz es))).wp P st Kc := by
        have h1 : (x :: p).dropLast = q := by rw [hq]; simp
        have h2 : (x :: p).getLast? = some (a, b) := by rw [hq]; simp
        simp only [conv, h1, h2, Option.getD_some] at hm
        exact hm
      obtain ⟨e, sz, es, he, hver, hr, hm2⟩ := getR_inv hm'
      obtain ⟨⟨hz1, hz2⟩, hm3⟩ := hm2
      subst hz1
      subst hz2
      obtain ⟨h1, h2⟩ := hv sz es _ ⟨e, he, hver, hr, rfl⟩
      rw [hq] at hr h2
      obtain ⟨s1, r1, hr1, hcell⟩ := rowAt_snoc hr
      have hi : heapFl (app ov st) Hd fl (.inl k) = some ⟨e.sz, e.es, Hd k⟩ := by simp only [heapFl]; exact HeapOf_some he
      have hset : setAt e.es q e.sz a b .d = setRow e.es q (setCell r1 a b .d) := by simp [setAt, hr1]
      -- out of the cell, to a place of its own; then the view of it
      have hdet := hk.detach (i2 := .inr (j, 0)) hi hr1 hnone hcell
      have h3 : ((heapFl (app ov st) Hd fl).set (.inl k) (some ⟨e.sz, setRow e.es q (setCell r1 a b .d), Hd k⟩)) (.inr (j, 1)) = none := by rw [Heap.set_ne _ _ (by simp)]; rfl
      have hren := hdet.rename (i := .inr (j, 0)) (i2 := .inr (j, 1)) (Heap.set_same _ _ _) (by rw [Heap.set_ne _ _ (by simp)]; exact h3)
      have hview := hren.view (i := .inr (j, 1)) (d := .inr (j, 0)) (off := 0) (len := es.length) (h0 := ⟨(Hd k (q ++ [(a, b)])).b, (Hd k (q ++ [(a, b)])).o, cap⟩) hbase (Heap.set_same _ _ _) (by simp)
        (by rw [Heap.set_ne _ _ (by simp), Heap.set_same]) (by simp) hle (fun h => ⟨rfl, by simp, by simpa using (h2 h).2⟩)
      refine ⟨(.k k, .e { e with es := setAt e.es q e.sz a b .d }) :: ov, .s true sz es, setFl fl j (some ⟨sz, es, appHd ⟨(Hd k (q ++ [(a, b)])).b, (Hd k (q ++ [(a, b)])).o, cap⟩ 0 es.length (fun p => Hd k (q ++ (a, b) :: p)) (fun _ => ⟨0, 0, 0⟩)⟩), ?_, ?_, fun i hi => setFl_ne _ _ hi, .inl ⟨_, setFl_same _ _ _, rfl, ?_⟩, rfl, hm3⟩
      · rw [app_cons, hset]; exact fewer_row he (fun p sz es h => hole_row hr1 p sz es h)
      · rw [app_cons, heapFl_setFl, heapFl_app, hset]
        refine hview.less (fun i r hir => ?_)
        by_cases h4 : i = .inr (j, 0)
        · subst h4; rw [Heap.set_same] at hir ⊢; simpa using hir
        · rw [Heap.set_ne _ _ h4] at hir ⊢
          by_cases h5 : i = .inr (j, 1)
          · subst h5; rw [Heap.set_ne _ _ (by simp)] at hir; simp [heapFl] at hir
          · rw [Heap.set_ne _ _ h5, Heap.set_ne _ _ h5, Heap.set_ne _ _ h4, Heap.set_ne _ _ h4]; exact hir
      · exact ⟨a', rfl, fun h => by simpa [appHd] using (h2 h).1⟩
theorem convs_ok {P : Program} {cx : Cx} {st : St} {Hd : K → Path → Hdr} {w : World} {Kc : Ws → Prop} (ys : Nat → Value) (hbase : cx.w0.heap.size ≤ w.heap.size) :
    ∀ (cs : List C) (ks : List (Option Nat)) (ov : Ws) (f : Ws → List T → M) (fl : Nat → Option HRow) (j : Nat), (convs ov ks cs f).wp P st Kc → HeapOK cx (heapFl (app ov st) Hd fl) w → (∀ i, j ≤ i → fl i = none) →
      (∀ (i : Nat) (c : C), cs[i]? = some c → COK cx (app ov st) Hd c (ys (j + i))) →
      ∃ ov' ts fl', Fewer (app ov st) (app ov' st) Hd Hd ∧ HeapOK cx (heapFl (app ov' st) Hd fl') w ∧ (∀ i, i < j → fl' i = fl i) ∧ ts.length = cs.length ∧ (∀ (i : Nat) (t : T), ts[i]? = some t → CellT cx fl' (j + i) t (ys (j + i)) ∧ (ys (j + i)).oneCell' = true) ∧
        (∀ i, j + cs.length ≤ i → fl' i = none) ∧ (f ov' ts).wp P st Kc
  | [], [], ov, f, fl, j, hm, hk, hfl, hc => ⟨ov, [], fl, .refl _ _, hk, fun _ _ => rfl, rfl, fun i t h => by simp at h, fun i h => hfl i (by simpa using h), hm⟩
  | [], _ :: _, ov, f, fl, j, hm, hk, hfl, hc => hm.elim
  | _ :: _, [], ov, f, fl, j, hm, hk, hfl, hc => hm.elim
  | c :: cs, kd :: ks, ov, f, fl, j, hm, hk, hfl, hc => by
    obtain ⟨ov1, t, fl1, h1, h2, h3, h4, h4', hm1⟩ := conv_ok (y := ys j) hm hk hbase (hfl j (Nat.le_refl _)) (hc 0 c rfl)
    obtain ⟨ov2, ts, fl2, k1, k2, k3, k4, k5, k6, hm2⟩ := convs_ok ys hbase cs ks ov1 (fun ov ts => f ov (t :: ts)) fl1 (j + 1) hm1 h2 (fun i hi => by rw [h3 i (by omega)]; exact hfl i (by omega))
      (fun i c' hc' => by rw [show j + 1 + i = j + (i + 1) by omega]; exact h1.cok (hc (i + 1) c' (by simpa using hc')))
    refine ⟨ov2, t :: ts, fl2, h1.trans k1, k2, fun i hi => by rw [k3 i (by omega), h3 i (by omega)], by simp [k4], fun i t' ht => ?_, fun i hi => k6 i (by simp at hi; omega), hm2⟩
    cases i with
    | zero =>
      simp only [List.getElem?_cons_zero, Option.some.injEq] at ht
      subst ht
      refine ⟨?_, by simpa using h4'⟩
      rw [Nat.add_zero]
      rcases h4 with ⟨r, hr, hh⟩ | ⟨hr, hh⟩
      · exact .inl ⟨r, by rw [k3 j (by omega)]; exact hr, hh⟩
      · exact .inr ⟨by rw [k3 j (by omega)]; exact hr, hh⟩
    | succ i =>
      rw [show j + (i + 1) = j + 1 + i by omega]
      exact k5 i t' (by simpa using ht)
def setCellsW (w : World) (b o : Nat) : List Value → World
  | [] => w
  | y :: ys => setCellsW (w.setCell ⟨b, o, none⟩ y) b (o + 1) ys
theorem rowAt_setRow_same {sz : Nat} {es : List (List T)} {p : Path} {sz' : Nat} {r new : List (List T)} (h : rowAt sz es p = some (sz', r)) : rowAt sz (setRow es p new) p = some (sz', new) := by
  rw [rowAt_setRow p p _ _ _ _ _ h, if_pos (List.prefix_refl _)]
  simp [rowAt]
theorem setCell_setCell (es : List (List T)) (i j : Nat) (t u : T) : setCell (setCell es i j t) i j u = setCell es i j u := by
  unfold setCell
  cases hi : es[i]? with
  | none => simp [hi]
  | some e =>
    have hil := (List.getElem?_eq_some_iff.1 hi).1
    simp [List.getElem?_set_self hil]
theorem setRow_setRow : ∀ (p : Path) (es : List (List T)) (sz sz' : Nat) (r a b : List (List T)), rowAt sz es p = some (sz', r) → setRow (setRow es p a) p b = setRow es p b
  | [], es, sz, sz', r, a, b, h => rfl
  | (i, j) :: p, es, sz, sz', r, a, b, h => by
    simp only [rowAt] at h
    cases hc : cellAt es i j with
    | none => simp [hc] at h
    | some t =>
      rw [hc] at h
      cases t with
      | v y => simp at h
      | d => simp at h
      | s o sz1 es1 =>
        cases o with
        | false => simp at h
        | true =>
          simp only [] at h
          simp only [setRow, hc, cellAt_setCell_same hc, setCell_setCell]
          rw [setRow_setRow p es1 sz1 sz' r a b h]
theorem put_cell {cx : Cx} {H : Heap} {w : World} (hk : HeapOK cx H w) {i : Ix} {r : HRow} {p : Path} {sz : Nat} {es : List (List T)} {a b : Nat} {el : List T} {t : T} {y : Value} {j : Ix}
    (hi : H i = some r) (hr : rowAt r.sz r.es p = some (sz, es)) (ha : es[a]? = some el) (hb : b < el.length) (hj : j ≠ i)
    (ht : (∃ f, H j = some f ∧ t = .s true f.sz f.es ∧ TOK cx (f.hd []) t y) ∨ (H j = none ∧ (∀ z zs, t ≠ .s true z zs) ∧ ∀ h, TOK cx h t y)) :
    ∃ hd', HeapOK cx ((H.set i (some ⟨r.sz, setRow r.es p (setCell es a b t), hd'⟩)).set j none) (w.setCell ⟨(r.hd p).b, (r.hd p).o + (a * sz + b), none⟩ y) ∧ (∀ q, ¬ (p ++ [(a, b)] <+: q) → hd' q = r.hd q) := by
  have hrow := hk.row hi hr
  obtain ⟨c, E, h1, h2, h3⟩ := hrow.2 (cap_ne hrow ha)
  have hsz := (h3 a el ha).1
  have hst := hk.store hi hr ha (by omega : b < sz) y
  have hr1 : rowAt r.sz (setRow r.es p (setCell es a b .d)) p = some (sz, setCell es a b .d) := rowAt_setRow_same hr
  have hy : ∀ e, (setCell es a b .d)[a]? = some e → (w.setCell ⟨(r.hd p).b, (r.hd p).o + (a * sz + b), none⟩ y).cell? ⟨(r.hd p).b, (r.hd p).o + (a * sz + b), none⟩ = some y := by
    intro e he
    have hlt := idx_lt (List.getElem?_eq_some_iff.1 ha).1 hrow.1 (by omega : b < sz)
    refine World.cell?_setCell_same (u := c[(r.hd p).o + (a * sz + b)]) (w := w) (a := ⟨(r.hd p).b, (r.hd p).o + (a * sz + b), none⟩) (v := y) ?_
    simp [World.cell?, h1]
  have hcd : cellAt (setCell es a b .d) a b = some .d := by
    refine cellAt_setCell_same (u := el[b]) ?_
    simp [cellAt, ha, hb]
  rcases ht with ⟨f, hf, rfl, hok⟩ | ⟨hf, hno, hok⟩
  · have hf1 : (H.set i (some { r with es := setRow r.es p (setCell es a b .d) })) j = some f := by rw [Heap.set_ne _ _ hj]; exact hf
    have hat := hst.attach (Heap.set_same _ _ _) hr1 hf1 hj (fun z zs h => by rw [hcd] at h; simp at h) hy hok
    refine ⟨graft r.hd (p ++ [(a, b)]) f.hd, hat.less (fun i' r' h => ?_), fun q hq => graft_not hq⟩
    by_cases hij : i' = j
    · subst hij; rw [Heap.set_same] at h; simp at h
    · rw [Heap.set_ne _ _ hij] at h ⊢
      by_cases hii : i' = i
      · subst hii
        rw [Heap.set_same] at h ⊢
        rw [setRow_setRow p _ _ _ _ _ _ hr, setCell_setCell]
        exact h
      · rw [Heap.set_ne _ _ hii] at h ⊢
        rw [Heap.set_ne _ _ hii]
        exact h
  · have href := hst.refine (Heap.set_same _ _ _) hr1 hy hno hok
    refine ⟨r.hd, href.less (fun i' r' h => ?_), fun q hq => rfl⟩
    by_cases hij : i' = j
    · subst hij; rw [Heap.set_same] at h; simp at h
    · rw [Heap.set_ne _ _ hij] at h
      by_cases hii : i' = i
      · subst hii
        rw [Heap.set_same] at h ⊢
        simp only [setRow_setRow p _ _ _ _ _ _ hr, setCell_setCell]
        exact h
      · rw [Heap.set_ne _ _ hii] at h ⊢
        rw [Heap.set_ne _ _ hii]
        exact h
end Go.Abs
namespace Go.Abs
open Go
variable [Amb]
theorem setCell_some {es : List (List T)} {a b : Nat} {el : List T} {t : T} (h : es[a]? = some el) : setCell es a b t = es.set a (el.set b t) := by simp [setCell, h]
def Used (H H' : Heap) (i : Ix) (j m : Nat) : Prop := ∀ i', i' ≠ i → (∀ x, j ≤ x → x < j + m → i' ≠ .inr (x, 0)) → H' i' = H i'
theorem puts_ok {cx : Cx} (k : K) (p : Path) : ∀ (ts : List T) (vs : List Value) (H : Heap) (w : World) (r : HRow) (sz : Nat) (es : List (List T)) (a off : Nat) (el : List T) (j : Nat), HeapOK cx H w → H (.inl k) = some r → rowAt r.sz r.es p = some (sz, es) → es[a]? = some el →
    off + ts.length ≤ el.length → vs.length = ts.length →
    (∀ (m : Nat) (t : T) (y : Value), ts[m]? = some t → vs[m]? = some y → (∃ f, H (.inr (j + m, 0)) = some f ∧ t = .s true f.sz f.es ∧ TOK cx (f.hd []) t y) ∨ (H (.inr (j + m, 0)) = none ∧ (∀ z zs, t ≠ .s true z zs) ∧ ∀ h, TOK cx h t y)) →
    ∃ H' hd', HeapOK cx H' (setCellsW w (r.hd p).b ((r.hd p).o + (a * sz + off)) vs) ∧ H' (.inl k) = some ⟨r.sz, setRow r.es p (es.set a (splice el off ts)), hd'⟩ ∧ Used H H' (.inl k) j ts.length ∧ (∀ q, (∀ m, off ≤ m → m < off + ts.length → ¬ (p ++ [(a, m)] <+: q)) → hd' q = r.hd q)
  | [], vs, H, w, r, sz, es, a, off, el, j, hk, hi, hr, ha, hl, hv, ht => by
    have : vs = [] := List.eq_nil_of_length_eq_zero hv
    subst this
    refine ⟨H, r.hd, hk, ?_, fun i' _ _ => rfl, fun q _ => rfl⟩
    have h1 : es.set a (splice el off []) = es := by
      simp only [splice]
      apply List.ext_getElem?
      intro i
      by_cases h : i = a
      · subst h; rw [ha, List.getElem?_set_self (List.getElem?_eq_some_iff.1 ha).1]
      · rw [List.getElem?_set_ne (Ne.symm h)]
    rw [h1, hi]
    have h2 : ∀ (p : Path) (es0 : List (List T)) (sz0 : Nat), rowAt sz0 es0 p = some (sz, es) → setRow es0 p es = es0 := by
      intro p
      induction p with
      | nil => intro es0 sz0 h; simp only [rowAt, Option.some.injEq, Prod.mk.injEq] at h; simp [setRow, h.2]
      | cons x p ih =>
        obtain ⟨x, y⟩ := x
        intro es0 sz0 h
        simp only [rowAt] at h
        cases hc : cellAt es0 x y with
        | none => simp [hc] at h
        | some t =>
          rw [hc] at h
          cases t with
          | v _ => simp at h
          | d => simp at h
          | s o z zs =>
            cases o with
            | false => simp at h
            | true =>
              simp only [] at h
              simp only [setRow, hc, ih zs z h]
              unfold cellAt at hc
              cases he : es0[x]? with
              | none => simp [he] at hc
              | some e =>
                rw [he] at hc
                simp only [Option.bind_some] at hc
                rw [setCell_some he]
                have h3 : e.set y (.s true z zs) = e := by
                  apply List.ext_getElem?
                  intro i
                  by_cases h : i = y
                  · subst h; rw [hc, List.getElem?_set_self (List.getElem?_eq_some_iff.1 hc).1]
                  · rw [List.getElem?_set_ne (Ne.symm h)]
                rw [h3]
                apply List.ext_getElem?
                intro i
                by_cases h : i = x
                · subst h; rw [he, List.getElem?_set_self (List.getElem?_eq_some_iff.1 he).1]
                · rw [List.getElem?_set_ne (Ne.symm h)]
    rw [h2 p r.es r.sz hr]
  | t :: ts, [], H, w, r, sz, es, a, off, el, j, hk, hi, hr, ha, hl, hv, ht => by simp at hv
  | t :: ts, y :: vs, H, w, r, sz, es, a, off, el, j, hk, hi, hr, ha, hl, hv, ht => by
    simp only [List.length_cons] at hl hv
    have hal := (List.getElem?_eq_some_iff.1 ha).1
    obtain ⟨hd1, h1, h2⟩ := put_cell hk (b := off) (y := y) (j := .inr (j, 0)) (t := t) hi hr ha (by omega) (by simp) (by simpa using ht 0 t y rfl rfl)
    have hi1 : ((H.set (.inl k) (some ⟨r.sz, setRow r.es p (setCell es a off t), hd1⟩)).set (.inr (j, 0)) none) (.inl k) = some ⟨r.sz, setRow r.es p (setCell es a off t), hd1⟩ := by
      rw [Heap.set_ne _ _ (by simp), Heap.set_same]
    have hr1 : rowAt r.sz (setRow r.es p (setCell es a off t)) p = some (sz, setCell es a off t) := rowAt_setRow_same hr
    have ha1 : (setCell es a off t)[a]? = some (el.set off t) := by rw [setCell_some ha, List.getElem?_set_self hal]
    have hp1 : hd1 p = r.hd p := h2 p not_prefix_self
    obtain ⟨H', hd', k1, k2, k3, k4⟩ := puts_ok k p ts vs _ _ _ sz (setCell es a off t) a (off + 1) (el.set off t) (j + 1) h1 hi1 hr1 ha1 (by simp; omega) (by omega) (fun m t' y' h3 h4 => by
      have := ht (m + 1) t' y' (by simpa using h3) (by simpa using h4)
      rw [show j + (m + 1) = j + 1 + m by omega] at this
      rw [Heap.set_ne _ _ (by simp; omega), Heap.set_ne _ _ (by simp)]
      exact this)
    refine ⟨H', hd', ?_, ?_, ?_, ?_⟩
    · simp only [setCellsW]
      simp only [hp1] at k1
      rw [show (r.hd p).o + (a * sz + off) + 1 = (r.hd p).o + (a * sz + (off + 1)) by omega]
      exact k1
    · rw [k2]
      congr 1
      rw [setRow_setRow p _ _ _ _ _ _ hr, setCell_some ha, List.set_set]
      rfl
    · intro i' hne hx
      rw [k3 i' hne (fun x h1 h2 => hx x (by omega) (by simp; omega)), Heap.set_ne _ _ (hx j (Nat.le_refl _) (by simp)), Heap.set_ne _ _ hne]
    · intro q hq
      rw [k4 q (fun m h1 h2 => hq m (by omega) (by simp; omega))]
      exact h2 q (hq off (Nat.le_refl _) (by simp))
theorem setCellsW_heap : ∀ (vs : List Value) (w : World) (b o : Nat) (b' : Nat), b' ≠ b → (setCellsW w b o vs).heap[b']? = w.heap[b']?
  | [], w, b, o, b', h => rfl
  | y :: vs, w, b, o, b', h => by rw [setCellsW, setCellsW_heap vs _ b _ b' h, setCell_block_ne h]
theorem setCellsW_frame : ∀ (vs : List Value) (w : World) (b o : Nat), (setCellsW w b o vs).os = w.os ∧ (setCellsW w b o vs).tape = w.tape ∧ (setCellsW w b o vs).output = w.output ∧ (setCellsW w b o vs).heap.size = w.heap.size
  | [], w, b, o => ⟨rfl, rfl, rfl, rfl⟩
  | y :: vs, w, b, o => by
    obtain ⟨h1, h2, h3, h4⟩ := setCellsW_frame vs (w.setCell ⟨b, o, none⟩ y) b (o + 1)
    exact ⟨h1, h2, h3, by rw [setCellsW, h4, setCell_heap_size]⟩
theorem storeCells_run {P : Program} (b o : Nat) : ∀ (vs : List Value) (i : Nat) (w : World) (c : Array Value) (E : TypeId), w.heap[b]? = some (.cells c E (0, 0)) → o + i + vs.length ≤ c.size → (∀ v ∈ vs, v.oneCell' = true) →
    (storeCells ⟨b, o, none⟩ vs i).run P w = .ok () (setCellsW w b (o + i) vs)
  | [], i, w, c, E, hg, hl, h1 => rfl
  | v :: vs, i, w, c, E, hg, hl, h1 => by
    simp only [List.length_cons] at hl
    have hcell : w.cell? ⟨b, o + i, none⟩ = some c[o + i] := by simp [World.cell?, hg]
    have hfro : w.frozen? ⟨b, o + i, none⟩ = false := by simp [World.frozen?, hg]
    have hst : (store ((⟨b, o, none⟩ : Addr).add i) v).run P w = .ok () (w.setCell ⟨b, o + i, none⟩ v) := by
      rw [addr_add, run_store P w _ v _ (h1 v (by simp)), hcell]
      simp [hfro]
    have ih := storeCells_run (P := P) b o vs (i + 1) (w.setCell ⟨b, o + i, none⟩ v) (c.setIfInBounds (o + i) v) E (setCell_block_same rfl hg) (by simp; omega) (fun x hx => h1 x (by simp [hx]))
    simp only [storeCells, Sem.run_bind, hst, Result.andThen_ok, ih, setCellsW, Nat.add_assoc]
theorem Keep.setCells {cx : Cx} {w : World} (h : Keep cx w) {b o : Nat} {vs : List Value} (hb : cx.w0.heap.size ≤ b ∨ cx.X b) : Keep cx (setCellsW w b o vs) := by
  obtain ⟨h1, h2, h3, h4⟩ := setCellsW_frame vs w b o
  refine ⟨h1.trans h.os, h2.trans h.tape, h3.trans h.output, by rw [h4]; exact h.size, fun b' hb' hX => ?_⟩
  rw [setCellsW_heap vs w b o b' (fun e => by subst e; rcases hb with hb | hb; omega; exact hX hb)]
  exact h.block b' hb' hX
theorem Keep.alloc {cx : Cx} {w : World} (h : Keep cx w) (o : Obj) : Keep cx (w.alloc o) :=
  ⟨h.os, h.tape, h.output, by have := h.size; simp; omega, fun b hb hX => by rw [alloc_heap_lt (by have := h.size; omega)]; exact h.block b hb hX⟩
theorem Keep.drew {cx : Cx} {w : World} (h : Keep cx w) : Keep cx w.drew := ⟨h.os, h.tape, h.output, h.size, h.block⟩
theorem splice_get : ∀ (ts e : List T) (off m : Nat), (splice e off ts)[m]? = if off ≤ m ∧ m < off + ts.length ∧ m < e.length then ts[m - off]? else e[m]?
  | [], e, off, m => by simp [splice]; intro h1 h2; omega
  | t :: ts, e, off, m => by
    rw [splice, splice_get ts (e.set off t) (off + 1) m]
    simp only [List.length_set, List.length_cons]
    by_cases h1 : m = off
    · subst h1
      rw [if_neg (by omega)]
      by_cases h2 : m < e.length
      · rw [if_pos (by omega), List.getElem?_set_self h2]; simp
      · rw [if_neg (by omega), List.getElem?_eq_none (by simp; omega), List.getElem?_eq_none (by omega)]
    · rw [List.getElem?_set_ne (Ne.symm h1)]
      by_cases h2 : off + 1 ≤ m ∧ m < off + 1 + ts.length ∧ m < e.length
      · rw [if_pos h2, if_pos (by omega), show m - off = (m - (off + 1)) + 1 by omega, List.getElem?_cons_succ]
      · rw [if_neg h2, if_neg (by omega)]
theorem rowAt_plain {sz0 : Nat} {es0 : List (List T)} {p : Path} {sz1 : Nat} {es : List (List T)} {i off : Nat} {el ts : List T} (hr : rowAt sz0 es0 p = some (sz1, es)) (hi : es[i]? = some el) (hts : ∀ t, t ∈ ts → T.isV t = true) (hold : ∀ t, t ∈ (el.drop off).take ts.length → T.isV t = true)
    (q : Path) (sz : Nat) (r : List (List T)) (h : rowAt sz0 (setRow es0 p (es.set i (splice el off ts))) q = some (sz, r)) :
    (∃ r0, rowAt sz0 es0 q = some (sz, r0) ∧ r0.length = r.length) ∧ ∀ m, off ≤ m → m < off + ts.length → ¬ (p ++ [(i, m)] <+: q) := by
  have hil := (List.getElem?_eq_some_iff.1 hi).1
  have hlen : (es.set i (splice el off ts)).length = es.length := by simp
  have hcell : ∀ x y z zs, cellAt (es.set i (splice el off ts)) x y = some (.s true z zs) → cellAt es x y = some (.s true z zs) ∧ ∀ m, off ≤ m → m < off + ts.length → (x, y) ≠ (i, m) := by
    intro x y z zs hc
    unfold cellAt at hc ⊢
    by_cases hx : x = i
    · subst hx
      rw [List.getElem?_set_self hil] at hc
      simp only [Option.bind_some, splice_get] at hc
      split at hc
      · have := hts _ (List.mem_of_getElem? hc)
        simp [T.isV] at this
      · rename_i hn
        refine ⟨by rw [hi]; exact hc, fun m h1 h2 he => ?_⟩
        have hy : y = m := (Prod.mk.inj he).2
        subst hy
        have := (List.getElem?_eq_some_iff.1 hc).1
        exact hn ⟨h1, h2, this⟩
    · rw [List.getElem?_set_ne (Ne.symm hx)] at hc
      exact ⟨hc, fun m _ _ he => hx (Prod.mk.inj he).1⟩
  rw [rowAt_setRow p q _ _ _ _ _ hr] at h
  split at h
  · rename_i hpq
    obtain ⟨q', rfl⟩ := hpq
    rw [List.drop_left] at h
    cases q' with
    | nil =>
      simp only [rowAt, Option.some.injEq, Prod.mk.injEq] at h
      obtain ⟨rfl, rfl⟩ := h
      refine ⟨⟨es, by simpa using hr, by simp⟩, fun m _ _ hh => ?_⟩
      have := hh.length_le
      simp at this
      omega
    | cons xy q' =>
      obtain ⟨x, y⟩ := xy
      simp only [rowAt] at h
      cases hc : cellAt (es.set i (splice el off ts)) x y with
      | none => simp [hc] at h
      | some u =>
        rw [hc] at h
        cases u with
        | v _ => simp at h
        | d => simp at h
        | s o z zs =>
          cases o with
          | false => simp at h
          | true =>
            simp only [] at h
            obtain ⟨h1, h2⟩ := hcell x y z zs hc
            refine ⟨⟨r, ?_, rfl⟩, fun m h3 h4 hh => ?_⟩
            · rw [rowAt_append, hr]
              simp only [Option.bind_some, rowAt, h1]
              exact h
            · have := (List.prefix_append_right_inj p).1 hh
              exact h2 m h3 h4 (List.cons_prefix_cons.1 this).1.symm
  · rename_i hpq
    have hno : ∀ m, off ≤ m → m < off + ts.length → ¬ (p ++ [(i, m)] <+: q) := fun m _ _ hh => hpq (List.IsPrefix.trans (List.prefix_append _ _) hh)
    split at h
    · rename_i hqp
      cases h0 : rowAt sz0 es0 q with
      | none => simp [h0] at h
      | some v =>
        obtain ⟨s2, e2⟩ := v
        rw [h0] at h
        simp only [Option.map_some, Option.some.injEq, Prod.mk.injEq] at h
        obtain ⟨rfl, rfl⟩ := h
        obtain ⟨p', rfl⟩ := hqp
        rw [rowAt_append, h0] at hr
        simp only [Option.bind_some] at hr
        refine ⟨⟨e2, rfl, ?_⟩, hno⟩
        rw [List.drop_left]
        exact (setRow_length hr hlen).symm
    · exact ⟨⟨r, h, rfl⟩, hno⟩
end Go.Abs
namespace Go.Abs
open Go
variable [Amb]
section
variable {P : Program} {md : Nat → Nat → Bool} {cx : Cx} {n : Nat} {st : St} {Hd : K → Path → Hdr} {a : Act} {w : World} {o : Oper} {Kc : Ws → Prop} {KC : Act → World → Prop} {Q : Exit → Act → World → Prop}
theorem cells_ok {v : V} {y : Value} {cs : List C} (hv : VOK cx st Hd v y) (h : v.cells = some cs) : y.cells.size = cs.length ∧ ∀ (i : Nat) (c : C), cs[i]? = some c → COK cx st Hd c (y.cells.getD i undef) := by
  cases hv with
  | c c y hc =>
    have key : y.cells = #[y] ∧ cs = [c] := by
      cases hc with
      | v => cases y <;> simp [V.cells] at h <;> exact ⟨rfl, h.symm⟩
      | b _ sz es hb => obtain ⟨a, cap, _, _, _, rfl, _⟩ := hb.inv; simp [V.cells] at h; exact ⟨rfl, h.symm⟩
      | n => simp [V.cells] at h; exact ⟨rfl, h.symm⟩
      | u => simp [V.cells] at h
      | r => simp [V.cells] at h; exact ⟨rfl, h.symm⟩
    obtain ⟨h1, rfl⟩ := key
    refine ⟨by rw [h1]; rfl, fun i c' hc' => ?_⟩
    cases i with
    | zero => simp at hc'; subst hc'; rw [h1]; exact hc
    | succ i => simp at hc'
  | a cs' ys h1 h2 =>
    simp only [V.cells, Option.some.injEq] at h
    subst h
    refine ⟨h1, fun i c hc => ?_⟩
    have hlt := (List.getElem?_eq_some_iff.1 hc).1
    have : ys[i]? = some (ys.getD i undef) := by simp [Array.getD_eq_getD_getElem?, h1, hlt]
    exact h2 i c _ hc this
  | p k ver p i off ad hk hv' => simp [V.cells] at h
  | q sz es i off b oo cap hb hi => simp [V.cells] at h
  | t vs ys h1 h2 => simp [V.cells] at h
  | f fn caps ys h1 h2 => simp [V.cells] at h
  | u => simp [V.cells] at h
theorem op_store (h : Rel cx n st Hd a w) (hd : ∀ t, o.dst = some t → t < n) {t : TypeId} {x z : Operand} (ho : o.op = .store t x z) (hm : (opM P md o).wp P st Kc)
    (hK : ∀ ws Hd' a' w', Kc ws → Rel cx n (app ws st) Hd' a' w' → KC a' w') : o.wp P a w KC Q := by
  simp only [opM, ho] at hm
  cases hdn : o.dst with
  | some _ => simp [hdn, M.wp] at hm
  | none =>
  cases hs : szOf P t with
  | none => simp [hs, hdn, M.wp] at hm
  | some m =>
  cases hks : kinds P 12 t with
  | none => simp [hs, hks, hdn, M.wp] at hm
  | some ks =>
  simp only [hs, hks, hdn] at hm
  obtain ⟨v, hv, hm1⟩ := getO_ok h hm
  obtain ⟨u2, hu, hm2⟩ := getO_ok h hm1
  clear hm hm1
  generalize hev : a.eval x = y0 at hv
  cases hv with
  | c c y hc => exact hm2.elim
  | a cs ys h1 h2 => exact hm2.elim
  | t vs ys h1 h2 => exact hm2.elim
  | f fn caps ys h1 h2 => exact hm2.elim
  | u => exact hm2.elim
  | q sz es i off b oo cap hb hi => exact hm2.elim
  | p k ver p i off ad hk hv' =>
    cases hcs : u2.cells with
    | none => simp [hcs, M.wp] at hm2
    | some cs =>
    simp only [hcs] at hm2
    obtain ⟨⟨hlen, hm0⟩, hm3⟩ := hm2
    obtain ⟨hsz, hcok⟩ := cells_ok hu hcs
    obtain ⟨ov, ts, fl, hfew, hheap, _, htl, hcell, hfl, hm4⟩ := convs_ok (fun j => (a.eval z).cells.getD j undef) (by have := h.keep.size; omega) cs ks [] _ (fun _ => none) 0 hm3 (by rw [heapFl_none]; exact h.heap) (fun _ _ => rfl) (fun i c hc => by rw [Nat.zero_add]; exact hcok i c hc)
    have hfew : Fewer st (app ov st) Hd Hd := hfew
    obtain ⟨e, sz, es, he, hver, hr, hm5⟩ := getR_inv hm4
    cases hi : es[i]? with
    | none => rw [hi] at hm5; exact hm5.elim
    | some el =>
    rw [hi] at hm5
    obtain ⟨hle, hm6⟩ := hm5
    have hil := (List.getElem?_eq_some_iff.1 hi).1
    have hpv : VOK cx (app ov st) Hd (V.p k ver p i off) (.pointer (some ad)) := hfew.vok (.p k ver p i off ad hk hv')
    have had : ad = ⟨(Hd k p).b, (Hd k p).o + (i * sz + off), none⟩ := by
      cases hpv with | p _ _ _ _ _ _ _ hv2 => exact hv2 sz es _ ⟨e, he, hver, hr, rfl⟩ hil
    have hik : heapFl (app ov st) Hd fl (.inl k) = some ⟨e.sz, e.es, Hd k⟩ := by simp only [heapFl]; exact HeapOf_some he
    have hrow := hheap.row hik hr
    obtain ⟨c, E, k1, k2, k3⟩ := hrow.2 (cap_ne hrow hi)
    have hels := (k3 i el hi).1
    obtain ⟨H', hd', g1, g2, g3, g4⟩ := puts_ok k p ts (a.eval z).cells.toList _ w _ sz es i off el 0 hheap hik hr hi (by omega) (by simp; omega) (fun m' t' y' h3 h4 => by
      have h5 := (hcell m' t' h3).1
      have h6 : (a.eval z).cells.getD (0 + m') undef = y' := by
        rw [Nat.zero_add, Array.getD_eq_getD_getElem?]
        simp at h4
        simp [h4]
      rw [h6] at h5
      exact h5)
    -- the run
    have hrun : (execOp a.eval o).run P w = .ok .skip (setCellsW w (Hd k p).b ((Hd k p).o + (i * sz + off)) (a.eval z).cells.toList) := by
      have hst := storeCells_run (P := P) (Hd k p).b ((Hd k p).o + (i * sz + off)) (a.eval z).cells.toList 0 w c E k1 (by
          have hcapk : es.length ≤ (Hd k p).cap := hrow.1
          have k2' : (Hd k p).o + (Hd k p).cap * sz ≤ c.size := k2
          have := idx_lt (b := off + m - 1) (sz := sz) hil hcapk (by omega)
          simp
          omega) (fun v hv => by
          obtain ⟨m', hm'⟩ := List.mem_iff_getElem?.1 hv
          have hlt := (List.getElem?_eq_some_iff.1 hm').1
          have hlt2 : m' < ts.length := by simp at hlt; omega
          have h7 : ts[m']? = some ts[m'] := List.getElem?_eq_getElem hlt2
          have h8 := (hcell m' _ h7).2
          rw [Nat.zero_add, Array.getD_eq_getD_getElem?] at h8
          simp at hm'
          simpa [hm'] using h8)
      rw [Nat.add_zero] at hst
      simp only [execOp, ho, Sem.run_bind, hev, had]
      have h9 : (Instr.storeAt t (.pointer (some ⟨(Hd k p).b, (Hd k p).o + (i * sz + off), none⟩)) (a.eval z)).run P w = .ok () (setCellsW w (Hd k p).b ((Hd k p).o + (i * sz + off)) (a.eval z).cells.toList) := by
        have h10 : ¬ ((a.eval z).cells.size ≠ m) := by omega
        simp only [Instr.storeAt, Instr.sureAddr, storeVar, Sem.run_bind, Sem.run_pure, Result.andThen_ok, size_run hs, if_neg h10]
        exact hst
      rw [h9]
      rfl
    have hX : cx.w0.heap.size ≤ (Hd k p).b ∨ cx.X (Hd k p).b := (hheap.blk _ _ _ _ _ ⟨_, hik, hr, rfl⟩ (cap_ne hrow hi)).2
    -- the new state
    have hts : ∀ t, t ∈ ts → ts.all T.isV = true → T.isV t = true := fun t ht h => List.all_eq_true.1 h t ht
    have hnewlen : (es.set i (splice el off ts)).length = es.length := by simp
    unfold Oper.wp
    rw [hrun]
    show KC (a.put o.dst undef) _
    rw [hdn]
    refine hK _ (fun k' => if k' = k then hd' else Hd k') _ _ hm6 ?_
    rw [app_cons]
    refine h.step (st' := _) (fun t => ?_) ?_ ?_ ?_ (h.keep.setCells hX)
    · rw [app_one_ne _ _ (by simp)]; exact hfew.slots t
    · intro k' ver' hkn
      have h1 := hfew.kn _ _ hkn
      by_cases hkk : k' = k
      · subst hkk
        refine ⟨by rw [app_one_same]; simp, fun e' he' => ?_⟩
        rw [app_one_same] at he'
        obtain rfl := X.e.inj he'
        have := h1.2 e he
        simp only []
        split <;> omega
      · have h2 : (Loc.k k') ≠ .k k := fun e => hkk (Loc.k.inj e)
        simp only [known, app_one_ne _ _ h2]; exact h1
    · intro k' ver' p' sz' es' g hkn hval
      have h1 := hfew.kn _ _ hkn
      have back : ∃ es0, valid (app ov st) Hd k' ver' p' sz' es0 g ∧ es0.length = es'.length := by
        obtain ⟨e', v1, v2, v3, v4⟩ := hval
        by_cases hkk : k' = k
        · subst hkk
          rw [app_one_same] at v1
          obtain rfl := X.e.inj v1
          simp only [if_true] at v4
          by_cases hpl : (ts.all T.isV && ((el.drop off).take m).all T.isV) = true
          · simp only [hpl, if_true] at v2
            rw [Bool.and_eq_true] at hpl
            have htl' : ts.length = m := by omega
            obtain ⟨⟨r0, r1, r2⟩, r3⟩ := rowAt_plain hr hi (fun t ht => hts t ht hpl.1) (fun t ht => List.all_eq_true.1 hpl.2 t (by rw [htl'] at ht; exact ht)) p' sz' es' v3
            refine ⟨r0, ⟨e, he, v2, r1, ?_⟩, r2⟩
            rw [← v4, g4 p' (fun m' h3 h4 => r3 m' h3 h4)]
          · simp only [hpl, if_false, Bool.false_eq_true] at v2
            have hle2 := h1.2 e he
            rcases v2 with rfl | v2
            · simp only [rowAt, Option.some.injEq, Prod.mk.injEq] at v3
              obtain ⟨rfl, rfl⟩ := v3
              refine ⟨e.es, ⟨e, he, .inl rfl, rfl, ?_⟩, (setRow_length hr hnewlen).symm⟩
              rw [← v4, g4 [] (fun m' h3 h4 hh => by have := hh.length_le; simp at this)]
            · omega
        · have h5 : (Loc.k k') ≠ .k k := fun e => hkk (Loc.k.inj e)
          rw [app_one_ne _ _ h5] at v1
          simp only [if_neg hkk] at v4
          exact ⟨es', ⟨e', v1, v2, v3, v4⟩, rfl⟩
      obtain ⟨es0, b1, b2⟩ := back
      obtain ⟨es1, b3, b4⟩ := hfew.va _ _ _ _ _ _ hkn b1
      exact ⟨es1, b3, b4.trans b2⟩
    · refine g1.less (fun i' r' hir => ?_)
      cases i' with
      | inr x => simp [HeapOf] at hir
      | inl k' =>
        by_cases hkk : k' = k
        · subst hkk
          simp only [HeapOf, app_one_same, if_true] at hir
          rw [g2, ← hir]
        · have h5 : (Loc.k k') ≠ .k k := fun e => hkk (Loc.k.inj e)
          simp only [HeapOf, app_one_ne _ _ h5, if_neg hkk] at hir
          rw [g3 (.inl k') (fun e => hkk (Sum.inl.inj e)) (fun x _ _ => by simp)]
          simp only [heapFl, HeapOf]
          exact hir
end
end Go.Abs
namespace Go.Abs
open Go
variable [Amb]
theorem Rel.newRoot {cx : Cx} {n : Nat} {st st1 : St} {Hd : K → Path → Hdr} {a : Act} {w w' : World} (h : Rel cx n st Hd a w) (hfew : Fewer st st1 Hd Hd) {k : K} (hk : st (.k k) = .none) {sz : Nat} {es : List (List T)} {hd : Path → Hdr}
    (hheap : HeapOK cx ((HeapOf st1 Hd).set (.inl k) (some ⟨sz, es, hd⟩)) w') (hkeep : Keep cx w') : Rel cx n (app [(.k k, .e ⟨0, sz, es⟩)] st1) (fun k' => if k' = k then hd else Hd k') a w' := by
  have hkn : ∀ k' ver, known st k' ver → k' ≠ k := by
    rintro k' ver ⟨h1, _⟩ rfl
    exact h1 hk
  refine h.step (fun t => ?_) ?_ ?_ ?_ hkeep
  · rw [app_one_ne _ _ (by simp)]; exact hfew.slots t
  · intro k' ver hkv
    have h2 : (Loc.k k') ≠ .k k := fun e => hkn _ _ hkv (Loc.k.inj e)
    simp only [known, app_one_ne _ _ h2]; exact hfew.kn _ _ hkv
  · intro k' ver p sz' es' g hkv hv
    have hne := hkn _ _ hkv
    have h2 : (Loc.k k') ≠ .k k := fun e => hne (Loc.k.inj e)
    obtain ⟨e, h3, h4, h5, h6⟩ := hv
    rw [app_one_ne _ _ h2] at h3
    simp only [if_neg hne] at h6
    exact hfew.va _ _ _ _ _ _ hkv ⟨e, h3, h4, h5, h6⟩
  · refine hheap.less (fun i r hir => ?_)
    cases i with
    | inr x => simp [HeapOf] at hir
    | inl k' =>
      by_cases hkk : k' = k
      · subst hkk
        simp only [HeapOf, app_one_same, if_true] at hir
        rw [Heap.set_same]; exact hir
      · have h5 : (Loc.k k') ≠ .k k := fun e => hkk (Loc.k.inj e)
        simp only [HeapOf, app_one_ne _ _ h5, if_neg hkk] at hir
        rw [Heap.set_ne _ _ (fun e => hkk (Sum.inl.inj e))]
        simp only [HeapOf]
        exact hir
theorem fresh_inv {P : Program} {st : St} {k : K} {m : M} {Kc : Ws → Prop} (hm : (fresh k m).wp P st Kc) : st (.k k) = .none ∧ m.wp P st Kc := by
  simp only [Go.Abs.fresh, M.wp] at hm
  cases hs : st (.k k) with
  | v v => rw [hs] at hm; exact hm.elim
  | gone => rw [hs] at hm; exact hm.elim
  | e e => rw [hs] at hm; exact hm.elim
  | none => rw [hs] at hm; exact ⟨rfl, hm⟩
theorem setCellsW_same : ∀ (vs : List Value) (w : World) (b o : Nat), (∀ (m : Nat) (y : Value), vs[m]? = some y → w.cell? ⟨b, o + m, none⟩ = some y) → setCellsW w b o vs = w
  | [], w, b, o, h => rfl
  | y :: vs, w, b, o, h => by
    have h0 := h 0 y rfl
    have hh : (w.setCell ⟨b, o, none⟩ y).heap = w.heap := by
      apply Array.ext_getElem?
      intro i
      by_cases hi : i = b
      · subst hi
        unfold World.cell? at h0
        simp only [Nat.add_zero] at h0
        cases hb : w.heap[i]? with
        | none => rw [hb] at h0; simp at h0
        | some ob =>
          rw [hb] at h0
          cases ob <;> simp at h0
          rename_i c E fz
          rw [setCell_block_same (a := ⟨i, o, none⟩) rfl hb]
          have : c.setIfInBounds o y = c := by
            apply Array.ext_getElem?
            intro j
            by_cases hj : o = j
            · subst hj
              rw [h0, Array.getElem?_setIfInBounds_self_of_lt (Array.getElem?_eq_some_iff.1 h0).1]
            · rw [Array.getElem?_setIfInBounds_ne hj]
          rw [this]
      · exact setCell_block_ne (a := ⟨b, o, none⟩) hi
    have hw : w.setCell ⟨b, o, none⟩ y = w := by
      have : w.setCell ⟨b, o, none⟩ y = { w with heap := (w.setCell ⟨b, o, none⟩ y).heap } := rfl
      rw [this, hh]
    rw [setCellsW, hw]
    exact setCellsW_same vs w b (o + 1) (fun m z hz => by rw [Nat.add_assoc, Nat.add_comm 1 m]; exact h (m + 1) z (by simpa using hz))
theorem splice_full {e ts : List T} (h : e.length = ts.length) : splice e 0 ts = ts := by
  apply List.ext_getElem?
  intro m
  rw [splice_get]
  by_cases hm : m < ts.length
  · rw [if_pos (by omega), Nat.sub_zero]
  · rw [if_neg (by omega), List.getElem?_eq_none (by omega), List.getElem?_eq_none (by omega)]
theorem tellL_ok {cx : Cx} (k : K) (n : Nat) : ∀ (tss : List (List T)) (H : Heap) (w : World) (r : HRow) (pre : List (List T)) (j : Nat) (ys : Nat → Value), HeapOK cx H w → H (.inl k) = some r → r.sz = n → r.es = pre ++ List.replicate tss.length (List.replicate n .d) →
    (∀ (i : Nat) (ts : List T), tss[i]? = some ts → ts.length = n ∧ ∀ (m : Nat) (t : T), ts[m]? = some t → ((∃ f, H (.inr (j + (i * n + m), 0)) = some f ∧ t = .s true f.sz f.es ∧ TOK cx (f.hd []) t (ys (i * n + m))) ∨ (H (.inr (j + (i * n + m), 0)) = none ∧ (∀ z zs, t ≠ .s true z zs) ∧ ∀ h, TOK cx h t (ys (i * n + m)))) ∧
      w.cell? ⟨(r.hd []).b, (r.hd []).o + ((pre.length + i) * n + m), none⟩ = some (ys (i * n + m))) →
    ∃ H' hd', HeapOK cx H' w ∧ H' (.inl k) = some ⟨n, pre ++ tss, hd'⟩ ∧ Used H H' (.inl k) j (tss.length * n) ∧ hd' [] = r.hd []
  | [], H, w, r, pre, j, ys, hk, hi, hn, hes, ht => by
    refine ⟨H, r.hd, hk, ?_, fun i' _ _ => rfl, rfl⟩
    rw [hi]
    obtain ⟨sz, es, hd⟩ := r
    simp at hes hn
    simp [hes, hn]
  | ts :: tss, H, w, r, pre, j, ys, hk, hi, hn, hes, ht => by
    obtain ⟨hlen, hcell⟩ := ht 0 ts rfl
    have ha : r.es[pre.length]? = some (List.replicate n .d) := by
      rw [hes, List.getElem?_append_right (Nat.le_refl _)]; simp
    have hr0 : rowAt r.sz r.es [] = some (n, r.es) := by simp [rowAt, hn]
    have hvs : ∀ (m : Nat) (y : Value), ((List.range n).map ys)[m]? = some y → m < n ∧ y = ys m := by
      intro m y hy
      have hlt : m < n := by have := (List.getElem?_eq_some_iff.1 hy).1; simpa using this
      simp [hlt] at hy
      exact ⟨hlt, hy.symm⟩
    obtain ⟨H1, hd1, h1, h2, h3, h4⟩ := puts_ok k [] ts ((List.range n).map ys) H w r n r.es pre.length 0 (List.replicate n .d) j hk hi hr0 ha (by simp [hlen]) (by simp [hlen]) (fun m t y h5 h6 => by
      obtain ⟨hlt, rfl⟩ := hvs m y h6
      have := (hcell m t h5).1
      simpa using this)
    rw [setCellsW_same _ _ _ _ (fun m y hy => by
      obtain ⟨hlt, rfl⟩ := hvs m y hy
      have hm : m < ts.length := by omega
      have := (hcell m _ (List.getElem?_eq_getElem hm)).2
      simp only [Nat.zero_mul, Nat.zero_add, Nat.add_zero] at this
      rw [Nat.add_assoc, Nat.add_zero]
      exact this)] at h1
    have hhd : hd1 [] = r.hd [] := h4 [] (fun m _ _ hh => by have := hh.length_le; simp at this)
    have hes1 : setRow r.es [] (r.es.set pre.length (splice (List.replicate n .d) 0 ts)) = (pre ++ [ts]) ++ List.replicate tss.length (List.replicate n .d) := by
      simp only [setRow]
      rw [splice_full (by simp [hlen]), hes]
      simp [List.replicate_succ]
    rw [hes1] at h2
    obtain ⟨H', hd', k1, k2, k3, k4⟩ := tellL_ok k n tss H1 w _ (pre ++ [ts]) (j + n) (fun x => ys (n + x)) h1 h2 hn rfl (fun i ts' hts => by
      obtain ⟨g1, g2⟩ := ht (i + 1) ts' (by simpa using hts)
      refine ⟨g1, fun m t hmt => ?_⟩
      obtain ⟨g3, g4⟩ := g2 m t hmt
      have e1 : (i + 1) * n + m = n + (i * n + m) := by rw [Nat.add_mul]; omega
      have hmn : m < n := by rw [← g1]; exact (List.getElem?_eq_some_iff.1 hmt).1
      rw [e1] at g3 g4
      have e2 : j + n + (i * n + m) = j + (n + (i * n + m)) := by omega
      refine ⟨?_, ?_⟩
      · rw [e2, h3 (.inr (j + (n + (i * n + m)), 0)) (by simp) (fun x h5 h6 => by simp; omega)]
        exact g3
      · simp only [hhd]
        rw [show (pre ++ [ts]).length + i = pre.length + (i + 1) by simp; omega]
        exact g4)
    refine ⟨H', hd', k1, by rw [k2]; simp, fun i' hne hx => ?_, k4.trans hhd⟩
    rw [k3 i' hne (fun x h5 h6 => hx x (by omega) (by simp [Nat.add_mul]; omega)), h3 i' hne (fun x h5 h6 => hx x h5 (by rw [hlen] at h6; simp [Nat.add_mul]; omega))]
end Go.Abs
namespace Go.Abs
open Go
variable [Amb]
theorem convsL_ok {P : Program} {cx : Cx} {st : St} {Hd : K → Path → Hdr} {w : World} {Kc : Ws → Prop} (ys : Nat → Value) (hbase : cx.w0.heap.size ≤ w.heap.size) (ks : List (Option Nat)) (n : Nat) :
    ∀ (css : List (List C)) (ov : Ws) (f : Ws → List (List T) → M) (fl : Nat → Option HRow) (j : Nat), (convsL ks ov css f).wp P st Kc → HeapOK cx (heapFl (app ov st) Hd fl) w → (∀ i, j ≤ i → fl i = none) → (∀ cs, cs ∈ css → cs.length = n) →
      (∀ (i : Nat) (cs : List C), css[i]? = some cs → ∀ (m : Nat) (c : C), cs[m]? = some c → COK cx (app ov st) Hd c (ys (j + (i * n + m)))) →
      ∃ ov' tss fl', Fewer (app ov st) (app ov' st) Hd Hd ∧ HeapOK cx (heapFl (app ov' st) Hd fl') w ∧ (∀ i, i < j → fl' i = fl i) ∧ tss.length = css.length ∧
        (∀ (i : Nat) (ts : List T), tss[i]? = some ts → ts.length = n ∧ ∀ (m : Nat) (t : T), ts[m]? = some t → CellT cx fl' (j + (i * n + m)) t (ys (j + (i * n + m))) ∧ (ys (j + (i * n + m))).oneCell' = true) ∧ (∀ i, j + css.length * n ≤ i → fl' i = none) ∧ (f ov' tss).wp P st Kc
  | [], ov, f, fl, j, hm, hk, hfl, hn, hc => ⟨ov, [], fl, .refl _ _, hk, fun _ _ => rfl, rfl, fun i ts h => by simp at h, fun i h => hfl i (by simpa using h), hm⟩
  | cs :: css, ov, f, fl, j, hm, hk, hfl, hn, hc => by
    have hn0 := hn cs (by simp)
    obtain ⟨ov1, ts, fl1, h1, h2, h3, h4, h5, h6, hm1⟩ := convs_ok ys hbase cs ks ov _ fl j hm hk hfl (fun i c hic => by have := hc 0 cs rfl i c hic; simpa using this)
    obtain ⟨ov2, tss, fl2, k1, k2, k3, k4, k5, k6, hm2⟩ := convsL_ok ys hbase ks n css ov1 _ fl1 (j + n) hm1 h2 (fun i hi => h6 i (by omega)) (fun cs' h => hn cs' (by simp [h]))
      (fun i cs' hi m c hmc => by
        have := hc (i + 1) cs' (by simpa using hi) m c hmc
        rw [show j + ((i + 1) * n + m) = j + n + (i * n + m) by rw [Nat.add_mul]; omega] at this
        exact h1.cok this)
    refine ⟨ov2, ts :: tss, fl2, h1.trans k1, k2, fun i hi => by rw [k3 i (by omega), h3 i hi], by simp [k4], fun i ts' hi => ?_, fun i hi => k6 i (by simp [Nat.add_mul] at hi; omega), hm2⟩
    cases i with
    | zero =>
      simp only [List.getElem?_cons_zero, Option.some.injEq] at hi
      subst hi
      refine ⟨by omega, fun m t hmt => ?_⟩
      obtain ⟨g1, g2⟩ := h5 m t hmt
      have hmn : m < n := by have := (List.getElem?_eq_some_iff.1 hmt).1; omega
      simp only [Nat.zero_mul, Nat.zero_add]
      refine ⟨?_, g2⟩
      rcases g1 with ⟨r, hr, hh⟩ | ⟨hr, hh⟩
      · exact .inl ⟨r, by rw [k3 _ (by omega)]; exact hr, hh⟩
      · exact .inr ⟨by rw [k3 _ (by omega)]; exact hr, hh⟩
    | succ i =>
      obtain ⟨g1, g2⟩ := k5 i ts' (by simpa using hi)
      refine ⟨g1, fun m t hmt => ?_⟩
      rw [show j + ((i + 1) * n + m) = j + n + (i * n + m) by rw [Nat.add_mul]; omega]
      exact g2 m t hmt
theorem Rel.newTold {cx : Cx} {n0 : Nat} {st : St} {Hd : K → Path → Hdr} {a : Act} {w : World} (h : Rel cx n0 st Hd a w) {ov : Ws} {fl : Nat → Option HRow} (hfew : Fewer st (app ov st) Hd Hd) (hheap : HeapOK cx (heapFl (app ov st) Hd fl) w)
    {k : K} (hk : st (.k k) = .none) {n : Nat} {tss : List (List T)} {ys : Nat → Value} (ht : ∀ (i : Nat) (ts : List T), tss[i]? = some ts → ts.length = n ∧ ∀ (m : Nat) (t : T), ts[m]? = some t → CellT cx fl (0 + (i * n + m)) t (ys (0 + (i * n + m))))
    {c : Array Value} {E : TypeId} {cap : Nat} (hcl : tss.length ≤ cap) (hcs : cap * n ≤ c.size) (hc : ∀ i m, i < tss.length → m < n → c[i * n + m]? = some (ys (i * n + m))) :
    ∃ hd', Rel cx n0 (app [(.k k, .e ⟨0, n, tss⟩)] (app ov st)) (fun k' => if k' = k then hd' else Hd k') a (w.alloc (.cells c E (0, 0))) ∧ hd' [] = ⟨w.heap.size, 0, cap⟩ := by
  have hb : cx.w0.heap.size ≤ w.heap.size := h.keep.size
  have hfr := hheap.fresh (i := .inl k) (c := c) (E := E) (sz := n) (cap := cap) (es := List.replicate tss.length (List.replicate n .d)) hb (by simpa using hcl) hcs (fun i e he => by
    obtain ⟨h1, h2⟩ := List.getElem?_eq_some_iff.1 he
    simp at h1 h2
    subst h2
    refine ⟨by simp, fun j t hj => ?_⟩
    obtain ⟨h3, h4⟩ := List.getElem?_eq_some_iff.1 hj
    simp at h3 h4
    subst h4
    exact ⟨trivial, _, hc i j h1 h3, trivial⟩)
  obtain ⟨H', hd', g1, g2, g3, g4⟩ := tellL_ok k n tss _ _ _ [] 0 ys hfr (Heap.set_same _ _ _) rfl rfl (fun i ts hi => by
    obtain ⟨h1, h2⟩ := ht i ts hi
    refine ⟨h1, fun m t hmt => ?_⟩
    have hlt : i < tss.length := (List.getElem?_eq_some_iff.1 hi).1
    have hmn : m < n := by rw [← h1]; exact (List.getElem?_eq_some_iff.1 hmt).1
    have h3 := h2 m t hmt
    simp only [Nat.zero_add] at h3 ⊢
    refine ⟨?_, ?_⟩
    · rw [Heap.set_ne _ _ (by simp)]; exact h3
    · simp only [hdNew, List.length_nil, Nat.zero_add]
      exact (World.cell?_alloc_new w c E (i * n + m)).trans (hc i m hlt hmn))
  refine ⟨hd', ?_, by simpa [hdNew] using g4⟩
  refine h.newRoot hfew hk (hd := hd') (g1.less (fun i' r' hir => ?_)) (h.keep.alloc _)
  by_cases hi : i' = .inl k
  · subst hi; rw [Heap.set_same] at hir; rw [g2]; simpa using hir
  · rw [Heap.set_ne _ _ hi] at hir
    cases i' with
    | inr x => simp [HeapOf] at hir
    | inl k' =>
      rw [g3 _ hi (fun x _ _ => by simp), Heap.set_ne _ _ hi]
      exact hir
section
variable {P : Program} {md : Nat → Nat → Bool} {cx : Cx} {n : Nat} {st : St} {Hd : K → Path → Hdr} {a : Act} {w : World} {o : Oper} {Kc : Ws → Prop} {KC : Act → World → Prop} {Q : Exit → Act → World → Prop}
theorem root_wp {st1 : St} {Hd1 : K → Path → Hdr} {w1 : World} (h : Rel cx n st1 Hd1 a w1) {d : Tmp} (hds : o.dst = some d) (hd : ∀ t, o.dst = some t → t < n) {v : V} {y : Value} {ws : Ws} (hst : app ws st = st1) (hrun : (execOp a.eval o).run P w = .ok (.value y) w1) (hv : VOK cx st1 Hd1 v y)
    (hm : Kc ((.s d, .v v) :: ws)) (hK : ∀ ws Hd' a' w', Kc ws → Rel cx n (app ws st) Hd' a' w' → KC a' w') : o.wp P a w KC Q := by
  unfold Oper.wp
  rw [hrun]
  show KC (a.put o.dst y) w1
  have hr := h.put hd hv
  rw [hds] at hr ⊢
  refine hK _ Hd1 _ _ hm ?_
  rw [app_cons, hst]
  exact hr
theorem vok_new {st1 : St} {Hd1 : K → Path → Hdr} {k : K} {sz : Nat} {es : List (List T)} (he : st1 (.k k) = .e ⟨0, sz, es⟩) {b cap : Nat} (hh : Hd1 k [] = ⟨b, 0, cap⟩) : VOK cx st1 Hd1 (.p k 0 [] 0 0) (.pointer (some ⟨b, 0, none⟩)) := by
  refine .p _ _ _ _ _ _ ⟨by rw [he]; simp, fun e h => by rw [he] at h; obtain rfl := X.e.inj h; exact Nat.le_refl _⟩ (fun sz' es' g hv _ => ?_)
  obtain ⟨e, h1, _, h3, h4⟩ := hv
  rw [he] at h1
  obtain rfl := X.e.inj h1
  rw [← h4, hh]
  simp
theorem vok_newS {st1 : St} {Hd1 : K → Path → Hdr} {k : K} {sz : Nat} {es : List (List T)} (he : st1 (.k k) = .e ⟨0, sz, es⟩) {b cap len : Nat} (hlen : len = es.length) (hl : len ≤ cap) (hh : Hd1 k [] = ⟨b, 0, cap⟩) : VOK cx st1 Hd1 (.c (.r k 0 [] 0 len)) (.slice (some ⟨b, 0, none⟩) len cap) := by
  refine .c _ _ (.r _ _ _ _ _ _ _ ⟨by rw [he]; simp, fun e h => by rw [he] at h; obtain rfl := X.e.inj h; exact Nat.le_refl _⟩ hl (fun sz' es' g hv => ?_))
  obtain ⟨e, h1, _, h3, h4⟩ := hv
  rw [he] at h1
  obtain rfl := X.e.inj h1
  simp only [rowAt, Option.some.injEq, Prod.mk.injEq] at h3
  obtain ⟨rfl, rfl⟩ := h3
  rw [← h4, hh]
  exact ⟨by omega, fun _ => ⟨by simp, by simp⟩⟩
theorem op_box (h : Rel cx n st Hd a w) (hd : ∀ t, o.dst = some t → t < n) {t : TypeId} {x : Operand} (ho : o.op = .box t x) (hm : (opM P md o).wp P st Kc)
    (hK : ∀ ws Hd' a' w', Kc ws → Rel cx n (app ws st) Hd' a' w' → KC a' w') : o.wp P a w KC Q := by
  simp only [opM, ho] at hm
  cases hds : o.dst with
  | none => simp [hds, M.wp] at hm
  | some d =>
  cases hks : kinds P 12 t with
  | none => simp [hds, hks, M.wp] at hm
  | some ks =>
  cases hs : szOf P t with
  | none => simp [hds, hks, hs, M.wp] at hm
  | some m =>
  simp only [hds, hks, hs] at hm
  obtain ⟨v, hv, hm1⟩ := getO_ok h hm
  cases hcs : v.cells with
  | none => simp [hcs, M.wp] at hm1
  | some cs =>
  simp only [hcs] at hm1
  obtain ⟨hk, ⟨hm0, hlen⟩, hm2⟩ := fresh_inv hm1
  obtain ⟨hsz, hcok⟩ := cells_ok hv hcs
  obtain ⟨ov, ts, fl, hfew, hheap, _, htl, hcell, hfl, hm4⟩ := convs_ok (fun j => (a.eval x).cells.getD j undef) h.keep.size cs ks [] _ (fun _ => none) 0 hm2 (by rw [heapFl_none]; exact h.heap) (fun _ _ => rfl) (fun i c hc => by rw [Nat.zero_add]; exact hcok i c hc)
  have hfew : Fewer st (app ov st) Hd Hd := hfew
  obtain ⟨hd', hr, hh⟩ := h.newTold hfew hheap hk (n := m) (tss := [ts]) (ys := fun j => (a.eval x).cells.getD j undef) (c := (a.eval x).cells) (E := t) (cap := 1) (fun i ts' hi => by
    cases i with
    | zero =>
      simp at hi
      subst hi
      exact ⟨by omega, fun m' t' hmt => by have := (hcell m' t' hmt).1; simpa using this⟩
    | succ i => simp at hi) (by simp) (by simp; omega) (fun i m' hi hm' => by
    simp at hi
    subst hi
    simp only [Nat.zero_mul, Nat.zero_add]
    have : m' < (a.eval x).cells.size := by omega
    simp [Array.getD_eq_getD_getElem?, this])
  refine root_wp hr hds hd (ws := (.k (d, 0), .e ⟨0, m, [ts]⟩) :: ov) (app_cons _ _ _ _) (y := .pointer (some ⟨w.heap.size, 0, none⟩)) ?_ (vok_new (app_one_same _ _ _) (by simpa using hh)) hm4 hK
  simp [execOp, ho, Instr.box, newVar, newRow]
theorem getPs_ok (h : Rel cx n st Hd a w) : ∀ {os : List (Nat × Operand)} {k : List (Nat × V) → M} {Kc : Ws → Prop}, (getPs os k).wp P st Kc →
    ∃ vs, vs.length = os.length ∧ (∀ (i : Nat) (v : Nat × V) (x : Nat × Operand), vs[i]? = some v → os[i]? = some x → v.1 = x.1 ∧ VOK cx st Hd v.2 (a.eval x.2)) ∧ (k vs).wp P st Kc
  | [], k, Kc, hm => ⟨[], rfl, fun i v x h1 => by simp at h1, hm⟩
  | (j, o) :: os, k, Kc, hm => by
    obtain ⟨v, hv, hm⟩ := getO_ok h hm
    obtain ⟨vs, h1, h2, hm⟩ := getPs_ok h hm
    refine ⟨(j, v) :: vs, by simp [h1], fun i v' x h3 h4 => ?_, hm⟩
    cases i with
    | zero => simp at h3 h4; subst h3; subst h4; exact ⟨rfl, hv⟩
    | succ i => exact h2 i v' x (by simpa using h3) (by simpa using h4)
theorem isNilS_ok {v : Value} (h : isNilS v = true) : v = .slice none 0 0 := by
  unfold isNilS at h
  split at h
  · rfl
  · simp at h
theorem zeroTs_ok : ∀ {ks : List (Option Nat)} {vs : List Value} {ts : List T}, zeroTs ks vs = some ts → ts.length = vs.length ∧ ∀ (i : Nat) (t : T), ts[i]? = some t → bareT t ∧ ∃ y, vs[i]? = some y ∧ TOK cx ⟨0, 0, 0⟩ t y
  | [], [], ts, h => by simp [zeroTs] at h; subst h; exact ⟨rfl, fun i t h => by simp at h⟩
  | [], _ :: _, ts, h => by simp [zeroTs] at h
  | none :: ks, [], ts, h => by simp [zeroTs] at h
  | some m :: ks, [], ts, h => by simp [zeroTs] at h
  | none :: ks, v :: vs, ts, h => by
    simp only [zeroTs] at h
    cases h1 : zeroTs ks vs with
    | none => simp [h1] at h
    | some ts' =>
      simp only [h1, Option.map_some, Option.some.injEq] at h
      subst h
      obtain ⟨h2, h3⟩ := zeroTs_ok h1
      refine ⟨by simp [h2], fun i t ht => ?_⟩
      cases i with
      | zero => simp at ht; subst ht; exact ⟨trivial, v, rfl, rfl⟩
      | succ i => simpa using h3 i t (by simpa using ht)
  | some m :: ks, v :: vs, ts, h => by
    simp only [zeroTs] at h
    split at h
    · rename_i hn
      have hv := isNilS_ok hn
      subst hv
      cases h1 : zeroTs ks vs with
      | none => simp [h1] at h
      | some ts' =>
        simp only [h1, Option.map_some, Option.some.injEq] at h
        subst h
        obtain ⟨h2, h3⟩ := zeroTs_ok h1
        refine ⟨by simp [h2], fun i t ht => ?_⟩
        cases i with
        | zero => simp at ht; subst ht; exact ⟨rfl, _, rfl, none, rfl, fun h => absurd rfl h⟩
        | succ i => simpa using h3 i t (by simpa using ht)
    · simp at h
theorem zeroOf_ok {t : TypeId} {z : List T} (h : zeroOf P t = some z) : ∃ i zv, P.info? t = some i ∧ i.zero = some zv ∧ z.length = zv.cells.size ∧ zv.cells.size = i.size ∧ ∀ (j : Nat) (t : T), z[j]? = some t → bareT t ∧ ∃ y, zv.cells[j]? = some y ∧ TOK cx ⟨0, 0, 0⟩ t y := by
  unfold zeroOf at h
  cases hi : P.info? t with
  | none => simp [hi] at h
  | some i =>
    simp only [hi] at h
    split at h
    · rename_i zv ks hz hk
      split at h
      · rename_i hsz
        obtain ⟨h1, h2⟩ := zeroTs_ok (cx := cx) h
        exact ⟨i, zv, rfl, hz, by simpa using h1, hsz, fun j t ht => by simpa using h2 j t ht⟩
      · simp at h
    · simp at h
theorem op_alloc (h : Rel cx n st Hd a w) (hd : ∀ t, o.dst = some t → t < n) {t : TypeId} (ho : o.op = .alloc t) (hm : (opM P md o).wp P st Kc)
    (hK : ∀ ws Hd' a' w', Kc ws → Rel cx n (app ws st) Hd' a' w' → KC a' w') : o.wp P a w KC Q := by
  simp only [opM, ho] at hm
  cases hds : o.dst with
  | none => simp [hds, M.wp] at hm
  | some d =>
  cases hz : zeroOf P t with
  | none => simp [hds, hz, M.wp] at hm
  | some z =>
  cases hs : szOf P t with
  | none => simp [hds, hz, hs, M.wp] at hm
  | some m =>
  simp only [hds, hz, hs] at hm
  obtain ⟨hk, ⟨hm0, hlen⟩, hm2⟩ := fresh_inv hm
  obtain ⟨i, zv, g1, g2, g3, g4, g5⟩ := zeroOf_ok (cx := cx) hz
  have hfr := h.heap.fresh (i := .inl (d, 0)) (c := zv.cells) (E := t) (sz := m) (cap := 1) (es := [z]) h.keep.size (by simp) (by omega) (fun i e he => by
    cases i with
    | zero =>
      simp at he
      subst he
      exact ⟨hlen, fun j t ht => by rw [Nat.zero_mul, Nat.zero_add]; exact g5 j t ht⟩
    | succ i => simp at he)
  have hr := h.newRoot (Fewer.refl st Hd) hk hfr (h.keep.alloc _)
  refine root_wp hr hds hd (ws := [(.k (d, 0), .e ⟨0, m, [z]⟩)]) rfl (y := .pointer (some ⟨w.heap.size, 0, none⟩)) ?_ (vok_new (b := w.heap.size) (cap := 1) (app_one_same _ _ _) (by simp [hdNew])) hm2 hK
  simp [execOp, ho, Instr.alloc, zeroValue, typeInfo, g1, g2, newVar, newRow]
theorem partCells_ok {m : Nat} : ∀ {vs : List (Nat × V)} {i : Nat} {css : List (List C)}, partCells m i vs = some css → css.length = vs.length ∧ ∀ (j : Nat) (v : Nat × V), vs[j]? = some v → v.1 = i + j ∧ ∃ cs, css[j]? = some cs ∧ v.2.cells = some cs ∧ cs.length = m
  | [], i, css, h => by simp [partCells] at h; subst h; exact ⟨rfl, fun j v h => by simp at h⟩
  | (j0, v0) :: vs, i, css, h => by
    simp only [partCells] at h
    split at h
    · rename_i hj
      cases h1 : v0.cells with
      | none => simp [h1] at h
      | some cs =>
        cases h2 : partCells m (i + 1) vs with
        | none => simp [h1, h2] at h
        | some css' =>
          simp only [h1, h2] at h
          split at h
          · rename_i hl
            obtain rfl := Option.some.inj h
            obtain ⟨h3, h4⟩ := partCells_ok h2
            refine ⟨by simp [h3], fun j v hv => ?_⟩
            cases j with
            | zero => simp at hv; subst hv; exact ⟨by simpa using hj, cs, rfl, h1, hl⟩
            | succ j =>
              obtain ⟨h5, h6⟩ := h4 j v (by simpa using hv)
              exact ⟨by omega, by simpa using h6⟩
          · simp at h
    · simp at h
theorem foldZip (off : Nat) : ∀ (l : List Value) (k : Nat) (cs : Array Value), ((l.zipIdx k).foldl (fun cs (x : Value × Nat) => cs.setIfInBounds (off + x.2) x.1) cs).size = cs.size ∧
    ∀ x, ((l.zipIdx k).foldl (fun cs (x : Value × Nat) => cs.setIfInBounds (off + x.2) x.1) cs)[x]? = if off + k ≤ x ∧ x < off + k + l.length ∧ x < cs.size then l[x - (off + k)]? else cs[x]?
  | [], k, cs => ⟨rfl, fun x => by simp; intro h1 h2; omega⟩
  | y :: l, k, cs => by
    obtain ⟨h1, h2⟩ := foldZip off l (k + 1) (cs.setIfInBounds (off + k) y)
    simp only [List.zipIdx_cons, List.foldl_cons]
    refine ⟨by rw [h1]; simp, fun x => ?_⟩
    rw [h2 x]
    simp only [Array.size_setIfInBounds, List.length_cons]
    by_cases hx : x = off + k
    · subst hx
      rw [if_neg (by omega)]
      by_cases hc : off + k < cs.size
      · rw [if_pos (by omega), Array.getElem?_setIfInBounds_self_of_lt hc, Nat.sub_self]; rfl
      · rw [if_neg (by omega), Array.getElem?_eq_none (by simp; omega), Array.getElem?_eq_none (by omega)]
    · rw [Array.getElem?_setIfInBounds_ne (Ne.symm hx)]
      by_cases hc : off + (k + 1) ≤ x ∧ x < off + (k + 1) + l.length ∧ x < cs.size
      · rw [if_pos hc, if_pos (by omega), show x - (off + k) = (x - (off + (k + 1))) + 1 by omega, List.getElem?_cons_succ]
      · rw [if_neg hc, if_neg (by omega)]
theorem fill_one {place : Nat → Option (Nat × Nat)} {i off m : Nat} {v : Value} {rest : List (Nat × Value)} {cells : Array Value} (hp : place i = some (off, m)) (hv : v.cells.size = m) (hc : off + m ≤ cells.size) :
    ∃ c, Instr.fill place cells ((i, v) :: rest) = Instr.fill place c rest ∧ c.size = cells.size ∧ ∀ x, c[x]? = if off ≤ x ∧ x < off + m then v.cells[x - off]? else cells[x]? := by
  obtain ⟨h1, h2⟩ := foldZip off v.cells.toList 0 cells
  have hE : v.cells.zipIdx.foldl (fun cs (x : Value × Nat) => cs.setIfInBounds (off + x.2) x.1) cells = (v.cells.toList.zipIdx 0).foldl (fun cs (x : Value × Nat) => cs.setIfInBounds (off + x.2) x.1) cells := by
    rw [← Array.foldl_toList, Array.toList_zipIdx]
  refine ⟨_, ?_, (congrArg Array.size hE).trans h1, fun x => ?_⟩
  · have hcond : (v.cells.size ≠ m || off + v.cells.size > cells.size) = false := by
      simp [hv]; omega
    simp only [Instr.fill, hp, hcond, Bool.false_eq_true, if_false]
  · rw [hE, h2 x]
    simp only [Array.length_toList, Nat.add_zero, Array.getElem?_toList, hv]
    by_cases hx : off ≤ x ∧ x < off + m
    · rw [if_pos (by omega), if_pos hx]
    · rw [if_neg (by omega), if_neg hx]
theorem fill_elems {m : Nat} : ∀ (vs : List (Nat × Value)) (i : Nat) (cells : Array Value), (∀ (j : Nat) (v : Nat × Value), vs[j]? = some v → v.1 = i + j ∧ v.2.cells.size = m) → (i + vs.length) * m ≤ cells.size →
    ∃ c, Instr.fill (fun i => some (i * m, m)) cells vs = some c ∧ c.size = cells.size ∧ (∀ x, x < i * m → c[x]? = cells[x]?) ∧ ∀ (j : Nat) (v : Nat × Value), vs[j]? = some v → ∀ x, x < m → c[(i + j) * m + x]? = v.2.cells[x]?
  | [], i, cells, h, hl => ⟨cells, rfl, rfl, fun _ _ => rfl, fun j v h => by simp at h⟩
  | (i0, v0) :: vs, i, cells, h, hl => by
    obtain ⟨h1, h2⟩ := h 0 (i0, v0) rfl
    simp only [Nat.add_zero] at h1 h2
    subst h1
    simp only [List.length_cons] at hl
    have hl1 : (i0 + 1) * m ≤ (i0 + (vs.length + 1)) * m := Nat.mul_le_mul_right _ (by omega)
    rw [Nat.add_mul, Nat.one_mul] at hl1
    obtain ⟨c1, k1, k2, k3⟩ := fill_one (place := fun i => some (i * m, m)) (i := i0) (off := i0 * m) (rest := vs) rfl h2 (by omega : i0 * m + m ≤ cells.size)
    obtain ⟨c, g1, g2, g3, g4⟩ := fill_elems vs (i0 + 1) c1 (fun j v hv => by obtain ⟨a1, a2⟩ := h (j + 1) v (by simpa using hv); exact ⟨by omega, a2⟩) (by rw [k2]; rw [show i0 + 1 + vs.length = i0 + (vs.length + 1) by omega]; exact hl)
    refine ⟨c, k1.trans g1, g2.trans k2, fun x hx => ?_, fun j v hv x hx => ?_⟩
    · rw [g3 x (by rw [Nat.add_mul, Nat.one_mul]; omega), k3 x, if_neg (by omega)]
    · cases j with
      | zero =>
        simp at hv
        subst hv
        rw [Nat.add_zero, g3 _ (by rw [Nat.add_mul, Nat.one_mul]; omega), k3, if_pos (by omega), Nat.add_sub_cancel_left]
      | succ j =>
        have := g4 j v (by simpa using hv) x hx
        rw [show i0 + (j + 1) = i0 + 1 + j by omega]
        exact this
theorem op_buildSlice (h : Rel cx n st Hd a w) (hd : ∀ t, o.dst = some t → t < n) {t : TypeId} {len : Nat} {parts : Array (Nat × Operand)} (ho : o.op = .buildSlice t len parts) (hm : (opM P md o).wp P st Kc)
    (hK : ∀ ws Hd' a' w', Kc ws → Rel cx n (app ws st) Hd' a' w' → KC a' w') : o.wp P a w KC Q := by
  simp only [opM, ho] at hm
  cases hds : o.dst with
  | none => simp [hds, M.wp] at hm
  | some d =>
  cases hel : elemOf P t with
  | none => simp [hds, hel, M.wp] at hm
  | some e =>
  cases hks : kinds P 12 e with
  | none => simp [hds, hel, hks, M.wp] at hm
  | some ks =>
  cases hs : szOf P e with
  | none => simp [hds, hel, hks, hs, M.wp] at hm
  | some m =>
  simp only [hds, hel, hks, hs] at hm
  obtain ⟨vs, hvl, hvs, hm1⟩ := getPs_ok h hm
  cases hpc : partCells m 0 vs with
  | none => simp [hpc, M.wp] at hm1
  | some css =>
  simp only [hpc] at hm1
  obtain ⟨hk, ⟨hm0, hcl, hbig, hz⟩, hm2⟩ := fresh_inv hm1
  obtain ⟨hl1, hpart⟩ := partCells_ok hpc
  obtain ⟨z, hz⟩ := Option.isSome_iff_exists.1 hz
  obtain ⟨inf, zv, g1, g2, g3, g4, g5⟩ := zeroOf_ok (cx := cx) hz
  have hinf : inf.size = m := by simp [szOf, g1] at hs; exact hs
  -- the parts as values
  have hpv : ∀ (j : Nat) (v : Nat × Value), (parts.toList.map fun x => (x.1, a.eval x.2))[j]? = some v → v.1 = 0 + j ∧ v.2.cells.size = m := by
    intro j v hj
    rw [List.getElem?_map] at hj
    cases hx : parts.toList[j]? with
    | none => simp [hx] at hj
    | some x =>
      rw [hx] at hj
      simp only [Option.map_some, Option.some.injEq] at hj
      subst hj
      have hjl := (List.getElem?_eq_some_iff.1 hx).1
      have hv : vs[j]? = some vs[j] := List.getElem?_eq_getElem (by omega)
      obtain ⟨k1, k2⟩ := hvs j _ x hv hx
      obtain ⟨k3, cs, k4, k5, k6⟩ := hpart j _ hv
      exact ⟨by simp only []; omega, by rw [(cells_ok k2 k5).1]; exact k6⟩
  have hplen : parts.toList.length = len := by omega
  obtain ⟨c, f1, f2, f3, f4⟩ := fill_elems (parts.toList.map fun x => (x.1, a.eval x.2)) 0 ((Array.range (len * m)).map (fun x => (if len * m = 0 then #[] else zv.cells)[x % (if len * m = 0 then #[] else zv.cells).size]!)) hpv (by simp; rw [← hplen]; simp)
  have hcsz : c.size = len * m := by rw [f2]; simp
  have hyc : ∀ (i : Nat) (cs : List C), css[i]? = some cs → cs.length = m ∧ ∀ (j : Nat) (c1 : C), cs[j]? = some c1 → COK cx st Hd c1 (c.getD (i * m + j) undef) := by
    intro i cs hi
    have hil := (List.getElem?_eq_some_iff.1 hi).1
    have hv : vs[i]? = some vs[i] := List.getElem?_eq_getElem (by omega)
    have hx : parts.toList[i]? = some parts.toList[i] := List.getElem?_eq_getElem (by omega)
    obtain ⟨k1, k2⟩ := hvs i _ _ hv hx
    obtain ⟨k3, cs', k4, k5, k6⟩ := hpart i _ hv
    rw [hi] at k4
    obtain rfl := Option.some.inj k4
    refine ⟨k6, fun j c1 hj => ?_⟩
    have hjm : j < m := by rw [← k6]; exact (List.getElem?_eq_some_iff.1 hj).1
    have := f4 i (parts.toList[i].1, a.eval parts.toList[i].2) (by rw [List.getElem?_map, hx]; rfl) j hjm
    rw [Nat.zero_add] at this
    have h3 := (cells_ok k2 k5).2 j c1 hj
    rw [Array.getD_eq_getD_getElem?] at h3 ⊢
    rw [this]
    exact h3
  obtain ⟨ov, tss, fl, hfew, hheap, _, htl, hcell, hfl, hm4⟩ := convsL_ok (fun j => c.getD j undef) h.keep.size ks m css [] _ (fun _ => none) 0 hm2 (by rw [heapFl_none]; exact h.heap) (fun _ _ => rfl)
    (fun cs hcs => by obtain ⟨i, hi⟩ := List.mem_iff_getElem?.1 hcs; exact (hyc i cs hi).1) (fun i cs hi j c1 hj => by simp only [Nat.zero_add]; exact (hyc i cs hi).2 j c1 hj)
  have hfew : Fewer st (app ov st) Hd Hd := hfew
  obtain ⟨hd', hr, hh⟩ := h.newTold hfew hheap hk (n := m) (tss := tss) (ys := fun j => c.getD j undef) (c := c) (E := e) (cap := len) (fun i ts hi => ⟨(hcell i ts hi).1, fun m' t' hmt => ((hcell i ts hi).2 m' t' hmt).1⟩) (by omega) (by omega) (fun i j hi hj => by
    have h4 : i * m + j < len * m := idx_lt hi (by omega) hj
    have h5 : i * m + j < c.size := by omega
    simp [Array.getD_eq_getD_getElem?, h5])
  refine root_wp hr hds hd (ws := (.k (d, 0), .e ⟨0, m, tss⟩) :: ov) (app_cons _ _ _ _) (y := .slice (some ⟨w.heap.size, 0, none⟩) len len) ?_ (vok_newS (b := w.heap.size) (cap := len) (app_one_same _ _ _) (by omega) (Nat.le_refl _) (by simpa using hh)) hm4 hK
  have hnb : ¬ (16777216 < len * m) := by omega
  have hlist : (parts.map (fun (x : Nat × Operand) => (x.1, a.eval x.2))).toList = parts.toList.map fun x => (x.1, a.eval x.2) := by simp
  have hbs : (Instr.buildSlice t len (parts.map fun (x : Nat × Operand) => (x.1, a.eval x.2))).run P w = .ok (.slice (some ⟨w.heap.size, 0, none⟩) len len) (w.alloc (.cells c e (0, 0))) := by
    simp only [Instr.buildSlice, Sem.run_bind, run_underlying (elem_run hel), Result.andThen_ok, size_run hs]
    have hpow : ¬ (len * m > 2 ^ 24) := by omega
    simp only [if_neg hpow, Sem.run_bind, Sem.run_pure, Result.andThen_ok]
    by_cases h0 : len * m = 0
    · simp only [if_pos h0] at f1 ⊢
      simp only [Sem.run_bind, Sem.run_pure, Result.andThen_ok]
      rw [hlist, f1]
      simp [newRow]
    · simp only [if_neg h0] at f1 ⊢
      simp only [zeroValue, typeInfo, Sem.run_bind, run_program, Result.andThen_ok, g1, g2, Sem.run_pure]
      rw [hlist, f1]
      simp [newRow]
  simp only [execOp, ho, Sem.run_bind]
  rw [show (parts.map fun x => match x with | (i, x) => (i, a.eval x)) = parts.map (fun (x : Nat × Operand) => (x.1, a.eval x.2)) from rfl, hbs]
  rfl
end
end Go.Abs
namespace Go.Abs
open Go
variable [Amb]
section
variable {P : Program} {md : Nat → Nat → Bool} {cx : Cx} {n : Nat} {st : St} {Hd : K → Path → Hdr} {a : Act} {w : World} {o : Oper} {Kc : Ws → Prop} {KC : Act → World → Prop} {Q : Exit → Act → World → Prop}
theorem op_makeSlice (h : Rel cx n st Hd a w) (hd : ∀ t, o.dst = some t → t < n) {t : TypeId} {l c : Operand} (ho : o.op = .makeSlice t l c) (hm : (opM P md o).wp P st Kc)
    (hK : ∀ ws Hd' a' w', Kc ws → Rel cx n (app ws st) Hd' a' w' → KC a' w') : o.wp P a w KC Q := by
  simp only [opM, ho] at hm
  cases hds : o.dst with
  | none => simp [hds, M.wp] at hm
  | some d =>
  cases hel : elemOf P t with
  | none => simp [hds, hel, M.wp] at hm
  | some e =>
  cases hz : zeroOf P e with
  | none => simp [hds, hel, hz, M.wp] at hm
  | some z =>
  cases hs : szOf P e with
  | none => simp [hds, hel, hz, hs, M.wp] at hm
  | some m =>
  cases hb : bytesOf P e with
  | none => simp [hds, hel, hz, hs, hb, M.wp] at hm
  | some by_ =>
  simp only [hds, hel, hz, hs, hb] at hm
  obtain ⟨v1, hv1, hm1⟩ := getO_ok h hm
  obtain ⟨v2, hv2, hm2⟩ := getO_ok h hm1
  cases hi1 : intV v1 with
  | none => simp [hi1, M.wp] at hm2
  | some i =>
  cases hi2 : intV v2 with
  | none => simp [hi1, hi2, M.wp] at hm2
  | some i' =>
  simp only [hi1, hi2] at hm2
  obtain ⟨hk, ⟨hm0, hzl, h0, hE, hby, hle⟩, hm3⟩ := fresh_inv hm2
  subst hE
  have e1 := intV_ok hv1 hi1
  have e2 := intV_ok hv2 hi2
  obtain ⟨inf, zv, g1, g2, g3, g4, g5⟩ := zeroOf_ok (cx := cx) hz
  have hinf : inf.size = m := by simp [szOf, g1] at hs; exact hs
  have hbi : inf.bytes = by_ := by simp [bytesOf, g1] at hb; exact hb
  let cs : Array Value := (Array.range (i.toNat * m)).map fun x => (if i.toNat * m = 0 then #[] else zv.cells)[x % (if i.toNat * m = 0 then #[] else zv.cells).size]!
  have hcs : ∀ x y, x < i.toNat → y < m → cs[x * m + y]? = zv.cells[y]? := by
    intro x y hx hy
    have h1 : x * m + y < i.toNat * m := idx_lt hx (Nat.le_refl _) hy
    have h2 : ¬ (i.toNat * m = 0) := by omega
    have h3 : zv.cells.size = m := by omega
    have h4 : (x * m + y) % m = y := by rw [Nat.mul_comm, Nat.mul_add_mod, Nat.mod_eq_of_lt hy]
    simp only [cs, if_neg h2]
    rw [Array.getElem?_map, Array.getElem?_range, if_pos h1]
    simp [h3, h4, hy]
  have hfr := h.heap.fresh (i := .inl (d, 0)) (c := cs) (E := e) (sz := m) (cap := i.toNat) (es := List.replicate i.toNat z) h.keep.size (by simp) (by simp [cs]) (fun x el he => by
    obtain ⟨h1, h2⟩ := List.getElem?_eq_some_iff.1 he
    simp at h1 h2
    subst h2
    refine ⟨hzl, fun y t ht => ?_⟩
    have hy : y < m := by rw [← hzl]; exact (List.getElem?_eq_some_iff.1 ht).1
    rw [hcs x y (by omega) hy]
    exact g5 y t ht)
  have hr := h.newRoot (Fewer.refl st Hd) hk hfr (h.keep.alloc _)
  have hw : IntKind.i64.wrap i = i := IntWalk.i64_in i (by omega)
  have hrun : (Instr.makeSlice t (.int .i64 i) (.int .i64 i)).run P w = .ok (.slice (some ⟨w.heap.size, 0, none⟩) i.toNat i.toNat) (w.alloc (.cells cs e (0, 0))) := by
    have c1 : ¬ (i < 0) := by omega
    have c2 : ¬ ((by_ : Int) * i > 281474976710656) := by
      have h3 : ((i.toNat * by_ : Nat) : Int) ≤ ((140737488355328 : Nat) : Int) := Int.ofNat_le.2 hby
      rw [Int.natCast_mul, Int.toNat_of_nonneg h0] at h3
      have h4 : (by_ : Int) * i = i * by_ := Int.mul_comm _ _
      omega
    simp only [Instr.makeSlice, Sem.run_bind, run_underlying (elem_run hel), Result.andThen_ok, asInt, asIntOf, Sem.run_pure, typeInfo, run_program, g1, hw, hbi, size_run hs]
    simp [c1, c2, size_run hs]
    by_cases hz0 : i.toNat * m = 0
    · simp [cs, hz0, newRow]
    · simp [cs, hz0, newRow, zeroValue, typeInfo, g1, g2]
  refine root_wp hr hds hd (ws := [(.k (d, 0), .e ⟨0, m, List.replicate i.toNat z⟩)]) rfl (y := .slice (some ⟨w.heap.size, 0, none⟩) i.toNat i.toNat) ?_ (vok_newS (b := w.heap.size) (cap := i.toNat) (app_one_same _ _ _) (by simp) (Nat.le_refl _) (by simp [hdNew])) hm3 hK
  simp only [execOp, ho, Sem.run_bind, e1, e2, hrun]
  rfl
theorem spliceC_length : ∀ (ts e : List C) (off : Nat), (spliceC e off ts).length = e.length
  | [], e, off => rfl
  | t :: ts, e, off => by simp [spliceC, spliceC_length ts]
theorem spliceC_get : ∀ (ts e : List C) (off m : Nat), (spliceC e off ts)[m]? = if off ≤ m ∧ m < off + ts.length ∧ m < e.length then ts[m - off]? else e[m]?
  | [], e, off, m => by simp [spliceC]; intro h1 h2; omega
  | t :: ts, e, off, m => by
    rw [spliceC, spliceC_get ts (e.set off t) (off + 1) m]
    simp only [List.length_set, List.length_cons]
    by_cases h1 : m = off
    · subst h1
      rw [if_neg (by omega)]
      by_cases h2 : m < e.length
      · rw [if_pos (by omega), List.getElem?_set_self h2]; simp
      · rw [if_neg (by omega), List.getElem?_eq_none (by simp; omega), List.getElem?_eq_none (by omega)]
    · rw [List.getElem?_set_ne (Ne.symm h1)]
      by_cases h2 : off + 1 ≤ m ∧ m < off + 1 + ts.length ∧ m < e.length
      · rw [if_pos h2, if_pos (by omega), show m - off = (m - (off + 1)) + 1 by omega, List.getElem?_cons_succ]
      · rw [if_neg h2, if_neg (by omega)]
theorem fillC_ok {t : TypeId} {place : Nat → Option (Nat × Nat)} (hplace : ∀ f off m g, fieldOf P t f = some (off, m, g) → place f = some (off, m)) :
    ∀ (ps : List (Nat × V)) (vs : List (Nat × Value)) (cs : List C) (ys : Array Value) (k : List C → M) (Kc : Ws → Prop), (fillC P t cs ps k).wp P st Kc → ps.length = vs.length →
      (∀ (i : Nat) (p : Nat × V) (v : Nat × Value), ps[i]? = some p → vs[i]? = some v → p.1 = v.1 ∧ VOK cx st Hd p.2 v.2) → ys.size = cs.length → (∀ (i : Nat) (c : C) (y : Value), cs[i]? = some c → ys[i]? = some y → COK cx st Hd c y) →
      ∃ cs' ys', Instr.fill place ys vs = some ys' ∧ ys'.size = cs'.length ∧ (∀ (i : Nat) (c : C) (y : Value), cs'[i]? = some c → ys'[i]? = some y → COK cx st Hd c y) ∧ (k cs').wp P st Kc
  | [], [], cs, ys, k, Kc, hm, hl, hp, hs, hc => ⟨cs, ys, rfl, hs, hc, hm⟩
  | [], _ :: _, cs, ys, k, Kc, hm, hl, hp, hs, hc => by simp at hl
  | _ :: _, [], cs, ys, k, Kc, hm, hl, hp, hs, hc => by simp at hl
  | (i, v) :: ps, (i', y) :: vs, cs, ys, k, Kc, hm, hl, hp, hs, hc => by
    obtain ⟨h1, h2⟩ := hp 0 _ _ rfl rfl
    simp only [] at h1 h2
    subst h1
    simp only [fillC] at hm
    split at hm
    · rename_i off m g xs hf hx
      obtain ⟨⟨hxl, hle⟩, hm1⟩ := hm
      obtain ⟨k1, k2⟩ := cells_ok h2 hx
      obtain ⟨c1, g1, g2, g3⟩ := fill_one (place := place) (i := i) (off := off) (m := m) (v := y) (rest := vs) (cells := ys) (hplace _ _ _ _ hf) (by omega) (by omega)
      obtain ⟨cs', ys', j1, j2, j3, j4⟩ := fillC_ok hplace ps vs (spliceC cs off xs) c1 k Kc hm1 (by simpa using hl) (fun i p v a b => hp (i + 1) p v (by simpa using a) (by simpa using b)) (by rw [g2, spliceC_length]; exact hs) (fun j c z hj hz => by
        rw [spliceC_get] at hj
        rw [g3] at hz
        by_cases hin : off ≤ j ∧ j < off + m
        · rw [if_pos (by omega)] at hj
          rw [if_pos hin] at hz
          have := k2 _ c hj
          rw [Array.getD_eq_getD_getElem?, hz] at this
          exact this
        · rw [if_neg (by omega)] at hj
          rw [if_neg hin] at hz
          exact hc j c z hj hz)
      exact ⟨cs', ys', g1.trans j1, j2, j3, j4⟩
    · exact hm.elim
theorem zeroC_length : ∀ (z : List T), (zeroC z).length = z.length
  | [] => rfl
  | t :: ts => by cases t <;> simp [zeroC, zeroC_length ts]
theorem zeroTs_cells : ∀ {ks : List (Option Nat)} {vs : List Value} {ts : List T}, zeroTs ks vs = some ts → ∀ (i : Nat) (c : C) (y : Value), (zeroC ts)[i]? = some c → vs[i]? = some y → COK cx st Hd c y
  | [], [], ts, h => by simp [zeroTs] at h; subst h; exact fun i c y h => by simp [zeroC] at h
  | [], _ :: _, ts, h => by simp [zeroTs] at h
  | none :: ks, [], ts, h => by simp [zeroTs] at h
  | some m :: ks, [], ts, h => by simp [zeroTs] at h
  | none :: ks, v :: vs, ts, h => by
    simp only [zeroTs] at h
    cases h1 : zeroTs ks vs with
    | none => simp [h1] at h
    | some ts' =>
      simp only [h1, Option.map_some, Option.some.injEq] at h
      subst h
      intro i c y hc hy
      cases i with
      | zero => simp [zeroC] at hc hy; subst hc; subst hy; exact .v _
      | succ i => exact zeroTs_cells h1 i c y (by simpa [zeroC] using hc) (by simpa using hy)
  | some m :: ks, v :: vs, ts, h => by
    simp only [zeroTs] at h
    split at h
    · rename_i hn
      have hv := isNilS_ok hn
      subst hv
      cases h1 : zeroTs ks vs with
      | none => simp [h1] at h
      | some ts' =>
        simp only [h1, Option.map_some, Option.some.injEq] at h
        subst h
        intro i c y hc hy
        cases i with
        | zero => simp [zeroC] at hc hy; subst hc; subst hy; exact .n
        | succ i => exact zeroTs_cells h1 i c y (by simpa [zeroC] using hc) (by simpa using hy)
    · simp at h
theorem mapM_places : ∀ (fs : List Field) (w : World), (∀ f, f ∈ fs → ∃ m, szOf P f.type = some m) → ∃ ps : List (Nat × Nat), (fs.mapM fun (f : Field) => (do pure (f.offset, ← sizeOf f.type) : Sem (Nat × Nat))).run P w = .ok ps w ∧ ∀ (i : Nat) (f : Field), fs[i]? = some f → ∃ m, szOf P f.type = some m ∧ ps[i]? = some (f.offset, m)
  | [], w, h => ⟨[], by simp, fun i f hf => by simp at hf⟩
  | f :: fs, w, h => by
    obtain ⟨m, hm⟩ := h f (by simp)
    obtain ⟨ps, h1, h2⟩ := mapM_places fs w (fun f hf => h f (by simp [hf]))
    refine ⟨(f.offset, m) :: ps, ?_, fun i g hg => ?_⟩
    · simp only [List.mapM_cons, Sem.run_bind, size_run hm, Result.andThen_ok, Sem.run_pure]
      rw [h1]; rfl
    · cases i with
      | zero => simp at hg; subst hg; exact ⟨m, hm, rfl⟩
      | succ i => simpa using h2 i g (by simpa using hg)
theorem kinds_sized : ∀ {N : Nat} {t : TypeId} {ks : List (Option Nat)}, kinds P N t = some ks → ∃ m, szOf P t = some m
  | 0, t, ks, h => by simp [kinds] at h
  | N + 1, t, ks, h => by
    unfold kinds at h
    cases hi : P.info? t with
    | none => simp [Program.underlying, hi] at h
    | some i => exact ⟨i.size, by simp [szOf, hi]⟩
theorem mapM_some_mem {α β : Type} {f : α → Option β} : ∀ {l : List α} {r : List β} {x : α}, l.mapM f = some r → x ∈ l → ∃ y, f x = some y
  | [], r, x, h, hx => by simp at hx
  | a :: l, r, x, h, hx => by
    rw [List.mapM_cons] at h
    cases h1 : f a with
    | none => simp [h1] at h
    | some y =>
      cases h2 : l.mapM f with
      | none => simp [h1, h2] at h
      | some ys =>
        rcases List.mem_cons.1 hx with rfl | hx
        · exact ⟨y, h1⟩
        · exact mapM_some_mem h2 hx
theorem kinds_struct {N : Nat} {t : TypeId} {ks : List (Option Nat)} (h : kinds P N t = some ks) (hs : isStruct P t = true) : ∃ fs, P.underlying t = some (.struct fs) ∧ ∀ f, f ∈ fs.toList → ∃ m, szOf P f.type = some m := by
  cases N with
  | zero => simp [kinds] at h
  | succ N =>
  unfold kinds at h
  cases hu : P.underlying t with
  | none => simp [hu] at h
  | some u =>
  rw [hu] at h
  cases u <;> simp only [] at h <;> try (simp [isStruct, aggOf, hu] at hs; done)
  case struct fs =>
    refine ⟨fs, rfl, fun f hf => ?_⟩
    cases hm : fs.toList.mapM fun (f : Field) => kinds P N f.type with
    | none => simp [hm] at h
    | some kss =>
      obtain ⟨ks', h1⟩ := mapM_some_mem hm hf
      exact kinds_sized h1
  all_goals simp at h
theorem op_build (h : Rel cx n st Hd a w) (hd : ∀ t, o.dst = some t → t < n) {t : TypeId} {parts : Array (Nat × Operand)} (ho : o.op = .build t parts) (hm : (opM P md o).wp P st Kc)
    (hK : ∀ ws Hd' a' w', Kc ws → Rel cx n (app ws st) Hd' a' w' → KC a' w') : o.wp P a w KC Q := by
  simp only [opM, ho] at hm
  split at hm
  rotate_left
  · exact hm.elim
  rename_i z hst hz
  have hz0 := hz
  unfold zeroOf at hz0
  cases hi : P.info? t with
  | none => simp [hi] at hz0
  | some i =>
  simp only [hi] at hz0
  split at hz0
  rotate_left
  · simp at hz0
  rename_i zv ks hzv hks
  split at hz0
  rotate_left
  · simp at hz0
  rename_i hsz
  obtain ⟨fs, hu, hfs⟩ := kinds_struct hks hst
  obtain ⟨vs, hvl, hvs, hm1⟩ := getPs_ok h hm
  obtain ⟨ps, hp1, hp2⟩ := mapM_places fs.toList w hfs
  have hlen : z.length = zv.cells.size := by
    have := (zeroTs_ok (cx := cx) hz0).1
    simpa using this
  obtain ⟨cs', ys', j1, j2, j3, j4⟩ := fillC_ok (cx := cx) (st := st) (Hd := Hd) (t := t) (place := (ps.toArray[·]?)) (fun f off m g hf => by
      obtain ⟨fs', x, k1, k2, rfl, k4, k5, k6⟩ := fieldOf_spec hf
      rw [hu] at k1
      obtain rfl := TypeDesc.struct.inj (Option.some.inj k1)
      obtain ⟨m', q1, q2⟩ := hp2 f x (by simpa using k2)
      rw [k4] at q1
      obtain rfl := Option.some.inj q1
      simpa using q2) vs (parts.toList.map fun x => (x.1, a.eval x.2)) (zeroC z) zv.cells _ Kc hm1 (by simpa using hvl) (fun j p v hp hv => by
      rw [List.getElem?_map] at hv
      cases hx : parts.toList[j]? with
      | none => simp [hx] at hv
      | some x =>
        rw [hx] at hv
        simp only [Option.map_some, Option.some.injEq] at hv
        subst hv
        exact hvs j p x hp hx) (by rw [zeroC_length]; exact hlen.symm) (fun j c y hc hy => zeroTs_cells hz0 j c y hc (by simpa using hy))
  refine put_wp h hd (y := .agg ys') ?_ (.a _ _ j2 j3) j4 hK
  have hlist : (parts.map (fun (x : Nat × Operand) => (x.1, a.eval x.2))).toList = parts.toList.map fun x => (x.1, a.eval x.2) := by simp
  have hb : (Instr.build t (parts.map fun (x : Nat × Operand) => (x.1, a.eval x.2))).run P w = .ok (.agg ys') w := by
    simp only [Instr.build, Sem.run_bind, zeroValue, typeInfo, run_program, hi, hzv, Sem.run_pure, Result.andThen_ok, run_underlying hu]
    rw [Array.mapM_eq_mapM_toList]
    simp only [map_eq_pure_bind, Sem.run_bind, hp1, Result.andThen_ok, Sem.run_pure]
    rw [hlist]
    rw [j1]
    rfl
  simp only [execOp, ho, Sem.run_bind]
  rw [show (parts.map fun x => match x with | (i, x) => (i, a.eval x)) = parts.map (fun (x : Nat × Operand) => (x.1, a.eval x.2)) from rfl, hb]
  rfl
end
end Go.Abs
namespace Go.Abs
open Go
variable [Amb]
theorem setCellsW_eq : ∀ (vs : List Value) (w : World) (b o : Nat), setCellsW w b o vs = w.setCells b o vs
  | [], w, b, o => rfl
  | v :: vs, w, b, o => by rw [setCellsW, World.setCells, setCellsW_eq vs]
theorem setCellsW_block : ∀ (vs : List Value) (w : World) (b o : Nat) (c : Array Value) (E : TypeId), w.heap[b]? = some (.cells c E (0, 0)) →
    ∃ c', (setCellsW w b o vs).heap[b]? = some (.cells c' E (0, 0)) ∧ c'.size = c.size ∧ (∀ j, j < o ∨ o + vs.length ≤ j → c'[j]? = c[j]?) ∧ (∀ j, o + j < c.size → j < vs.length → c'[o + j]? = vs[j]?)
  | [], w, b, o, c, E, h => ⟨c, h, rfl, fun j _ => rfl, fun j _ h => by simp at h⟩
  | v :: vs, w, b, o, c, E, h => by
    obtain ⟨c', h1, h2, h3, h4⟩ := setCellsW_block vs (w.setCell ⟨b, o, none⟩ v) b (o + 1) (c.setIfInBounds o v) E (setCell_block_same rfl h)
    refine ⟨c', h1, by simpa using h2, fun j hj => ?_, fun j hj hl => ?_⟩
    · simp only [List.length_cons] at hj
      rw [h3 j (by omega), Array.getElem?_setIfInBounds_ne (by omega)]
    · cases j with
      | zero =>
        rw [Nat.add_zero, h3 o (by omega)]
        simp at hj ⊢
        rw [Array.getElem?_setIfInBounds_self_of_lt hj]
      | succ j =>
        simp only [List.length_cons] at hl
        rw [show o + (j + 1) = o + 1 + j by omega, h4 j (by simp; omega) (by omega)]
        rfl
theorem append_mem {P : Program} {w : World} {t tx ty e : TypeId} {i : TypeInfo} {z : Value} (ht : P.underlying t = some (.slice e)) (hi : P.info? e = some i) (hz : i.zero = some z) (hzs : z.cells.size = i.size)
    {a : Option Addr} {len cap b o : Nat} (hl : len ≤ cap) (hrow : cap ≠ 0 → a = some ⟨b, o, none⟩ ∧ ∃ c E, w.heap[b]? = some (.cells c E (0, 0)) ∧ o + cap * i.size ≤ c.size)
    {x : Value} {m : Nat} {vals : List Value} (hs : Src P i.size tx x m vals w) (hbig : (len + m) * i.bytes ≤ 140737488355328) (h63 : len + m ≤ 140737488355328) :
    ∃ (h0 : Hdr) (a' : Option Addr) (w' : World), (Builtin.append_ #[t, tx] ty #[.slice a len cap, x]).run P w = .ok (.slice a' (len + m) h0.cap) w' ∧ (h0.cap ≠ 0 → a' = some ⟨h0.b, h0.o, none⟩) ∧ len + m ≤ h0.cap ∧
      w.heap.size ≤ w'.heap.size ∧ (∀ b', b' < w.heap.size → b' ≠ h0.b → w'.heap[b']? = w.heap[b']?) ∧ (h0.cap ≠ 0 → (h0.b = b ∧ cap ≠ 0) ∨ (w.heap.size ≤ h0.b ∧ h0.b < w'.heap.size)) ∧ (h0.cap = 0 → w.heap.size ≤ h0.b ∨ w' = w) ∧
      (h0.cap ≠ 0 → ∃ c' E, w'.heap[h0.b]? = some (.cells c' E (0, 0)) ∧ h0.o + h0.cap * i.size ≤ c'.size ∧ (∀ j c E, j < len * i.size → w.heap[b]? = some (.cells c E (0, 0)) → c'[h0.o + j]? = c[o + j]?) ∧ ∀ j, j < vals.length → c'[h0.o + (len * i.size + j)]? = vals[j]?) ∧
      (∀ cx : Cx, Keep cx w → (cap ≠ 0 → cx.w0.heap.size ≤ b ∨ cx.X b) → Keep cx w') := by
  have hvl := hs.newsLen
  by_cases hroom : len + m ≤ cap
  · by_cases hc : cap = 0
    · subst hc
      obtain rfl : len = 0 := by omega
      obtain rfl : m = 0 := by omega
      have hv0 : vals = [] := by apply List.eq_nil_of_length_eq_zero; omega
      subst hv0
      refine ⟨⟨w.heap.size, 0, 0⟩, a, w, ?_, fun h => absurd rfl h, Nat.le_refl _, Nat.le_refl _, fun _ _ _ => rfl, fun h => absurd rfl h, fun _ => .inr rfl, fun h => absurd rfl h, fun _ h _ => h⟩
      rcases hs.kind with ⟨e', hk⟩ | hk <;> cases a <;> simp [Builtin.append_, run_underlying ht, run_underlying hk, sizeOf, typeInfo, hi, hs.len, hs.cells, storeCells]
    · obtain ⟨rfl, c, E, h1, h2⟩ := hrow hc
      have hfit : o + len * i.size + vals.length ≤ c.size := by
        have : (len + m) * i.size ≤ cap * i.size := Nat.mul_le_mul_right _ hroom
        rw [Nat.add_mul] at this
        omega
      have hblt : b < w.heap.size := by rw [Array.getElem?_eq_some_iff] at h1; exact h1.1
      obtain ⟨c', k1, k2, k3, k4⟩ := setCellsW_block vals w b (o + len * i.size) c E h1
      obtain ⟨f1, f2, f3, f4⟩ := setCellsW_frame vals w b (o + len * i.size)
      refine ⟨⟨b, o, cap⟩, _, setCellsW w b (o + len * i.size) vals, ?_, fun _ => rfl, hroom, by rw [f4]; exact Nat.le_refl _, fun b' _ hne => setCellsW_heap _ _ _ _ _ hne, fun _ => .inl ⟨rfl, hc⟩, fun h => absurd h hc, fun _ => ⟨c', E, k1, by rw [k2]; exact h2, fun j c2 E2 hj hc2 => ?_, fun j hj => ?_⟩, fun cx hk hb => hk.setCells (hb hc)⟩
      · rw [setCellsW_eq]
        exact run_append_room_src w t tx ty e i ht hi b o len cap x m vals hs hroom (fun j hj => by simp [World.cell?, h1]; omega) (fun j hj => by simp [World.frozen?, h1])
      · rw [h1] at hc2
        obtain ⟨rfl, _, _⟩ := Obj.cells.inj (Option.some.inj hc2)
        simp only []
        rw [k3 _ (by omega)]
      · simp only []
        rw [show o + (len * i.size + j) = o + len * i.size + j by omega, k4 j (by omega) hj]
  · have hge := grownCap_ge w (len + m) cap e
    -- the old cells
    have hold : ∃ olds : List Value, olds.length = len * i.size ∧ (Builtin.firstCells i.size len (.slice a len cap)).run P w.drew = .ok olds.toArray w.drew ∧ (∀ j c E, j < len * i.size → w.heap[b]? = some (.cells c E (0, 0)) → olds[j]? = c[o + j]?) := by
      by_cases hc : cap = 0
      · obtain rfl : len = 0 := by omega
        refine ⟨[], by simp, ?_, fun j c E hj => by omega⟩
        cases a with
        | none => exact run_firstCells_none _ _ _ _ _
        | some a => exact run_firstCells_some _ _ _ _ _ _ [] (by simp) (fun j v h => by simp at h)
      · obtain ⟨rfl, c, E, h1, h2⟩ := hrow hc
        have hfit : o + len * i.size ≤ c.size := by
          have : len * i.size ≤ cap * i.size := Nat.mul_le_mul_right _ hl
          omega
        refine ⟨(c.toList.drop o).take (len * i.size), by simp; omega, run_firstCells_some _ _ _ _ _ _ _ (by simp; omega) (fun j v hj => ?_), fun j c2 E2 hj hc2 => ?_⟩
        · have hjl := (List.getElem?_eq_some_iff.1 hj).1
          simp at hjl
          rw [List.getElem?_take_of_lt (by omega), List.getElem?_drop] at hj
          simp only [Array.getElem?_toList] at hj
          have hcv : w.cell? ⟨b, o + j, none⟩ = some v := by simp [World.cell?, h1, hj]
          rw [addr_add]
          exact hcv
        · rw [h1] at hc2
          obtain ⟨rfl, _, _⟩ := Obj.cells.inj (Option.some.inj hc2)
          rw [List.getElem?_take_of_lt (by omega), List.getElem?_drop, Array.getElem?_toList]
    obtain ⟨olds, ho1, ho2, ho3⟩ := hold
    have hrun := run_append_grow_src (P := P) w t tx ty e i z ht hi hz a len cap olds ho2 x m vals hs (by omega) (by omega) (growslice_fits (by omega) hbig)
    refine ⟨⟨w.heap.size, 0, grownCap w (len + m) cap e⟩, _, _, hrun, fun _ => rfl, hge, by simp, fun b' hb' _ => ?_, fun _ => .inr ⟨Nat.le_refl _, by simp⟩, fun _ => .inl (Nat.le_refl _), fun _ => ⟨(olds ++ vals).toArray ++ Builtin.zeroCells z.cells (grownCap w (len + m) cap e - (len + m)), e, ?_, ?_, fun j c E hj hc => ?_, fun j hj => ?_⟩, fun cx hk _ => hk.drew.alloc _⟩
    · exact alloc_heap_lt (w := w.drew) hb'
    · exact alloc_heap_new w.drew _
    · simp only [Array.size_append, List.size_toArray, List.length_append, size_zeroCells, hzs, ho1, hvl]
      have : (grownCap w (len + m) cap e) * i.size = (len + m) * i.size + (grownCap w (len + m) cap e - (len + m)) * i.size := by rw [← Nat.add_mul]; congr 1; omega
      rw [Nat.add_mul] at this
      omega
    · simp only [Nat.zero_add]
      rw [Array.getElem?_append_left (by simp; omega), List.getElem?_toArray, List.getElem?_append_left (by omega)]
      exact ho3 j c E hj hc
    · simp only [Nat.zero_add]
      rw [Array.getElem?_append_left (by simp; omega), List.getElem?_toArray, List.getElem?_append_right (by omega), ho1]
      congr 1; omega
end Go.Abs
namespace Go.Abs
open Go
variable [Amb]
section
variable {P : Program} {md : Nat → Nat → Bool} {cx : Cx} {n : Nat} {st : St} {Hd : K → Path → Hdr} {a : Act} {w : World} {o : Oper} {Kc : Ws → Prop} {KC : Act → World → Prop} {Q : Exit → Act → World → Prop}
theorem src_cells {n : Nat} (hn : n ≠ 0) {tx e' : TypeId} (hk : P.underlying tx = some (.slice e')) (es : List (List T)) (b o : Nat) (g : Nat → Nat → Value) (hsz : ∀ (i : Nat) (e : List T), es[i]? = some e → e.length = n)
    (hc : ∀ (i : Nat) (e : List T) (j : Nat) (t : T), es[i]? = some e → e[j]? = some t → w.cell? ⟨b, o + (i * n + j), none⟩ = some (g i j)) (h1 : ∀ (i : Nat) (e : List T) (j : Nat) (t : T), es[i]? = some e → e[j]? = some t → (g i j).oneCell' = true) (c : Nat) :
    ∃ vals, Src P n tx (.slice (some ⟨b, o, none⟩) es.length c) es.length vals w ∧ ∀ (i : Nat) (e : List T) (j : Nat) (t : T), es[i]? = some e → e[j]? = some t → vals[i * n + j]? = some (g i j) := by
  have hq : ∀ q, q < es.length * n → ∃ e t, es[q / n]? = some e ∧ e[q % n]? = some t := by
    intro q hq
    have h2 : q / n < es.length := Nat.div_lt_of_lt_mul (by rw [Nat.mul_comm]; exact hq)
    have h3 : q % n < n := Nat.mod_lt _ (by omega)
    have h4 := hsz _ _ (List.getElem?_eq_getElem h2)
    exact ⟨_, _, List.getElem?_eq_getElem h2, List.getElem?_eq_getElem (by omega)⟩
  refine ⟨(List.range (es.length * n)).map fun q => g (q / n) (q % n), Src.ofSlice w hk _ _ _ _ (by simp) (fun q v hv => ?_) (fun v hv => ?_), fun i e j t hi hj => ?_⟩
  · rw [List.getElem?_map] at hv
    by_cases hlt : q < es.length * n
    · rw [List.getElem?_range hlt] at hv
      obtain ⟨e, t, h2, h3⟩ := hq q hlt
      simp only [Option.map_some, Option.some.injEq] at hv
      subst hv
      have := hc _ _ _ _ h2 h3
      rw [show q / n * n + q % n = q by rw [Nat.mul_comm]; exact Nat.div_add_mod q n] at this
      rw [addr_add]
      exact this
    · rw [List.getElem?_eq_none (by simpa using hlt)] at hv
      simp at hv
  · obtain ⟨q, hlt, rfl⟩ := List.mem_map.1 hv
    obtain ⟨e, t, h2, h3⟩ := hq q (List.mem_range.1 hlt)
    exact h1 _ _ _ _ h2 h3
  · have hil := (List.getElem?_eq_some_iff.1 hi).1
    have hjl := (List.getElem?_eq_some_iff.1 hj).1
    have h2 := hsz _ _ hi
    have hlt : i * n + j < es.length * n := idx_lt hil (Nat.le_refl _) (by omega)
    rw [List.getElem?_map, List.getElem?_range hlt]
    have h3 : (i * n + j) / n = i := by rw [Nat.mul_comm, Nat.mul_add_div (by omega), Nat.div_eq_of_lt (by omega)]; omega
    have h4 : (i * n + j) % n = j := by rw [Nat.mul_comm, Nat.mul_add_mod, Nat.mod_eq_of_lt (by omega)]
    simp [h3, h4]
theorem src_empty {n : Nat} {tx e' : TypeId} (hk : P.underlying tx = some (.slice e')) (a : Option Addr) (c : Nat) : Src P n tx (.slice a 0 c) 0 [] w := by
  cases a with
  | none => exact Src.ofNil w hk c
  | some a => exact Src.ofSlice w hk a 0 c [] (by simp) (fun j u h => by simp at h) (fun u h => by simp at h)
theorem oneEs_at {es : List (List T)} (h : oneEs es = true) {i j : Nat} {e : List T} {t : T} (hi : es[i]? = some e) (hj : e[j]? = some t) : t.one = true :=
  List.all_eq_true.1 (List.all_eq_true.1 h e (List.mem_of_getElem? hi)) t (List.mem_of_getElem? hj)
theorem scalEs_at {es : List (List T)} (h : scalEs es = true) {i j : Nat} {e : List T} {t : T} (hi : es[i]? = some e) (hj : e[j]? = some t) : t.isV = true :=
  List.all_eq_true.1 (List.all_eq_true.1 h e (List.mem_of_getElem? hi)) t (List.mem_of_getElem? hj)
theorem TOK.oneCell {h : Hdr} {t : T} {y : Value} (hy : TOK cx h t y) (ho : t.one = true) : y.oneCell' = true := by
  cases t with
  | v x => cases hy; exact ho
  | d => simp [T.one] at ho
  | s own z zs =>
    cases own with
    | true => obtain ⟨a, rfl, _⟩ := hy; rfl
    | false => obtain ⟨a, cap, _, _, _, rfl, _⟩ := Bor.inv hy; rfl
theorem notOwnV {t : T} (h : t.isV = true) : ∀ z zs, t ≠ .s true z zs := by
  rintro z zs rfl; simp [T.isV] at h
theorem src_ok (h : Rel cx n st Hd a w) {m : Nat} (hm0 : m ≠ 0) {tx e' : TypeId} (hk : P.underlying tx = some (.slice e')) {v : V} {y : Value} (hv : VOK cx st Hd v y) {f : Ws → List (List T) → M} (hm : (srcM m v f).wp P st Kc) :
    ∃ (ov : Ws) (news : List (List T)) (vals : List Value) (g : Path → Hdr), Src P m tx y news.length vals w ∧
      (∀ (x : Nat) (e : List T), news[x]? = some e → e.length = m ∧ ∀ (j : Nat) (t : T), e[j]? = some t → ∃ u, vals[x * m + j]? = some u ∧ TOK cx (g [(x, j)]) t u) ∧
      ((ov = [] ∧ ∀ (x : Nat) (e : List T), news[x]? = some e → ∀ (y : Nat) (t : T), e[y]? = some t → ∀ z zs, t ≠ .s true z zs) ∨ ∃ k e, ov = [(.k k, .gone)] ∧ st (.k k) = .e e ∧ e.sz = m ∧ news = e.es ∧ g = Hd k) ∧ (f ov news).wp P st Kc := by
  unfold srcM at hm
  split at hm
  · rw [nil_inv hv]
    exact ⟨[], [], [], fun _ => ⟨0, 0, 0⟩, src_empty hk _ _, fun x e h => by simp at h, .inl ⟨rfl, fun x e h => by simp at h⟩, hm⟩
  · rename_i sz es
    obtain ⟨⟨h1, h2⟩, hm⟩ := hm
    cases hv with | c _ _ hc => cases hc with | b _ _ _ hb =>
    cases hb with
    | mk a' cap _ _ b o g hl hsz ha hcell ht =>
    rcases ha with rfl | ⟨rfl, hX⟩
    · exact ⟨[], [], [], fun _ => ⟨0, 0, 0⟩, src_empty hk _ _, fun x e h => by simp at h, .inl ⟨rfl, fun x e h => by simp at h⟩, hm⟩
    · rcases h1 with rfl | rfl
      rotate_left
      · exact ⟨[], [], [], fun _ => ⟨0, 0, 0⟩, src_empty hk _ _, fun x e h => by simp at h, .inl ⟨rfl, fun x e h => by simp at h⟩, hm⟩
      have hcw : ∀ (i : Nat) (e : List T) (j : Nat) (t : T), es[i]? = some e → e[j]? = some t → w.cell? ⟨b, o + (i * sz + j), none⟩ = some (g i j) := by
        intro i e j t hi hj
        have h3 := hcell i e j t hi hj
        have h4 : b < cx.w0.heap.size := by
          apply Classical.byContradiction
          intro hb
          simp [World.cell?, Array.getElem?_eq_none (by omega : cx.w0.heap.size ≤ b)] at h3
        have h5 := h.keep.block b h4 hX
        simp only [World.cell?] at h3 ⊢
        rw [h5]
        exact h3
      have hown : ∀ (x : Nat) (e : List T), es[x]? = some e → ∀ (y : Nat) (t : T), e[y]? = some t → ∀ z zs, t ≠ .s true z zs := by
        rintro x e hx y t hy z zs rfl
        have := ht x e y _ hx hy
        cases this
      obtain ⟨vals, k1, k2⟩ := src_cells (w := w) hm0 hk es b o g hsz hcw (fun i e j t hi hj => by
        have h3 := ht i e j t hi hj
        have h4 := oneEs_at h2 hi hj
        cases h3 with
        | v x => exact h4
        | d x => simp [T.one] at h4
        | s y z zs hb => obtain ⟨a, cap, _, _, _, hE, _⟩ := Bor.inv hb; rw [hE]; rfl) cap
      refine ⟨[], es, vals, fun _ => ⟨0, 0, 0⟩, k1, fun x e hx => ⟨hsz x e hx, fun j t hj => ⟨_, k2 x e j t hx hj, ?_⟩⟩, .inl ⟨rfl, hown⟩, hm⟩
      have h3 := ht x e j t hx hj
      cases h3 with
      | v x => rfl
      | d x => trivial
      | s y z zs hb => exact hb
  · rename_i k ver p off len
    obtain ⟨e, sz, es, he, hver, hr, hm2⟩ := getR_inv hm
    obtain ⟨⟨rfl, hle, h1⟩, hm3⟩ := hm2
    simp only [app, ovl] at he
    cases hv with | c _ _ hc => cases hc with | r _ _ _ _ _ a' cap hkn hlc hvl =>
    obtain ⟨h2, h3⟩ := hvl _ _ _ ⟨e, he, hver, hr, rfl⟩
    have hrow := h.heap.row (HeapOf_some he) hr
    by_cases hlen : ((es.drop off).take len) = []
    · have hl0 : len = 0 := by
        have := congrArg List.length hlen
        simp at this; omega
      subst hl0
      split at hm3
      · rw [hlen] at hm3
        exact ⟨[], [], [], fun _ => ⟨0, 0, 0⟩, src_empty hk _ _, fun x e h => by simp at h, .inl ⟨rfl, fun x e h => by simp at h⟩, hm3⟩
      · obtain ⟨⟨rfl, rfl, hl⟩, hm4⟩ := hm3
        have hes : es = [] := List.eq_nil_of_length_eq_zero hl.symm
        subst hes
        simp only [rowAt, Option.some.injEq, Prod.mk.injEq] at hr
        refine ⟨_, [], [], Hd k, src_empty hk _ _, fun x e h => by simp at h, .inr ⟨k, e, rfl, he, hr.1, hr.2.symm, rfl⟩, hm4⟩
    · have hln : len ≠ 0 := fun h => hlen (by rw [h]; simp)
      obtain ⟨rfl, h5⟩ := h3 (by omega)
      obtain ⟨c, E, k1, k2, k3⟩ := hrow.2 (show (Hd k p).cap ≠ 0 by omega)
      have hlen2 : ((es.drop off).take len).length = len := by simp; omega
      have hget : ∀ (i : Nat) (e : List T), ((es.drop off).take len)[i]? = some e → i < len ∧ es[off + i]? = some e := by
        intro i e hi
        have hil := (List.getElem?_eq_some_iff.1 hi).1
        rw [hlen2] at hil
        rw [List.getElem?_take_of_lt hil, List.getElem?_drop] at hi
        exact ⟨hil, hi⟩
      obtain ⟨vals, j1, j2⟩ := src_cells (w := w) hm0 hk ((es.drop off).take len) (Hd k p).b ((Hd k p).o + off * sz) (fun i j => c.getD ((Hd k p).o + ((off + i) * sz + j)) undef) (fun i e hi => (k3 _ e (hget i e hi).2).1) (fun i e j t hi hj => by
          obtain ⟨u, hu, _⟩ := (k3 _ e (hget i e hi).2).2 j t hj
          simp only [World.cell?, k1]
          rw [show (Hd k p).o + off * sz + (i * sz + j) = (Hd k p).o + ((off + i) * sz + j) by have := Nat.add_mul off i sz; omega, hu, Array.getD_eq_getD_getElem?, hu]
          rfl) (fun i e j t hi hj => by
          obtain ⟨u, hu, hok⟩ := (k3 _ e (hget i e hi).2).2 j t hj
          rw [Array.getD_eq_getD_getElem?, hu]
          refine hok.oneCell ?_
          have h6 := (hget i e hi).2
          exact oneEs_at h1 h6 hj) cap
      rw [hlen2] at j1
      split at hm3
      · rename_i hs
        refine ⟨[], (es.drop off).take len, vals, fun _ => ⟨0, 0, 0⟩, by rw [hlen2]; exact j1, fun x e hx => ⟨(k3 _ e (hget x e hx).2).1, fun j t hj => ?_⟩, .inl ⟨rfl, fun x e hx y t hy => notOwnV (scalEs_at hs (hget x e hx).2 hy)⟩, hm3⟩
        obtain ⟨u, hu, hok⟩ := (k3 _ e (hget x e hx).2).2 j t hj
        refine ⟨_, j2 x e j t hx hj, ?_⟩
        rw [Array.getD_eq_getD_getElem?, hu]
        have h6 := scalEs_at hs (hget x e hx).2 hj
        cases t with
        | v x => exact hok
        | d => trivial
        | s _ _ _ => simp [T.isV] at h6
      · obtain ⟨⟨rfl, rfl, hl⟩, hm4⟩ := hm3
        simp only [rowAt, Option.some.injEq, Prod.mk.injEq] at hr
        obtain ⟨hr1, rfl⟩ := hr
        refine ⟨_, e.es, vals, Hd k, by rw [← hl]; exact j1, fun x e' hx => ?_, .inr ⟨k, e, rfl, he, hr1, rfl, rfl⟩, hm4⟩
        have hx2 : ((e.es.drop 0).take len)[x]? = some e' := by
          rw [List.drop_zero, hl, List.take_length]; exact hx
        obtain ⟨_, hx3⟩ := hget x e' hx2
        refine ⟨(k3 _ e' hx3).1, fun j t hj => ?_⟩
        obtain ⟨u, hu, hok⟩ := (k3 _ e' hx3).2 j t hj
        refine ⟨_, j2 x e' j t hx2 hj, ?_⟩
        rw [Array.getD_eq_getD_getElem?, hu]
        simpa using hok
  · exact hm.elim
end
end Go.Abs
namespace Go.Abs
open Go
variable [Amb]
section
variable {P : Program} {md : Nat → Nat → Bool} {cx : Cx} {n : Nat} {st : St} {Hd : K → Path → Hdr} {a : Act} {w : World} {o : Oper} {Kc : Ws → Prop} {KC : Act → World → Prop} {Q : Exit → Act → World → Prop}
theorem append_core (h : Rel cx n st Hd a w) {H : Heap} (hH : HeapOK cx H w) {t tx ty el : TypeId} {m by_ : Nat} (hel : elemOf P t = some el) (hs : szOf P el = some m) (hb : bytesOf P el = some by_) (hz : (zeroOf P el).isSome = true)
    {d : Tmp} (hk : st (.k (d, 0)) = .none) {st1 : St} (hfew : Fewer st st1 Hd Hd) {i : Ix} {r : HRow} (hi : H i = some r) (hn : r.sz = m) {off len : Nat} (hl : off + len ≤ r.es.length) {a' : Option Addr} {cap : Nat} (hle : len ≤ cap)
    (hcap : cap ≠ 0 → a' = some ⟨(r.hd []).b, (r.hd []).o + off * m, none⟩ ∧ off + cap ≤ (r.hd []).cap) (hHH : ∀ j s, j ≠ .inl (d, 0) → HeapOf st1 Hd j = some s → H j = some s ∧ j ≠ i)
    {y : Value} {news : List (List T)} {vals : List Value} {g : Path → Hdr} (hsrc : Src P m tx y news.length vals w)
    (hnews : ∀ (x : Nat) (e : List T), news[x]? = some e → e.length = m ∧ ∀ (j : Nat) (t : T), e[j]? = some t → ∃ u, vals[x * m + j]? = some u ∧ TOK cx (g [(x, j)]) t u)
    (hown : (∀ (x : Nat) (e : List T), news[x]? = some e → ∀ (y : Nat) (t : T), e[y]? = some t → ∀ z zs, t ≠ .s true z zs) ∨ ∃ i2 f, H i2 = some f ∧ f.sz = m ∧ news = f.es ∧ g = f.hd ∧ i2 ≠ i ∧ i2 ≠ .inl (d, 0) ∧ HeapOf st1 Hd i2 = none)
    (hbig : (len + news.length) * by_ ≤ 140737488355328) (h63 : len + news.length ≤ 140737488355328) :
    ∃ (z : Value) (w' : World) (hd : Path → Hdr), (Builtin.append_ #[t, tx] ty #[.slice a' len cap, y]).run P w = .ok z w' ∧
      Rel cx n (app [(.k (d, 0), .e ⟨0, m, (r.es.drop off).take len ++ news⟩)] st1) (fun k' => if k' = (d, 0) then hd else Hd k') a w' ∧
      VOK cx (app [(.k (d, 0), .e ⟨0, m, (r.es.drop off).take len ++ news⟩)] st1) (fun k' => if k' = (d, 0) then hd else Hd k') (.c (.r (d, 0) 0 [] 0 (len + news.length))) z := by
  obtain ⟨zt, hzt⟩ := Option.isSome_iff_exists.1 hz
  obtain ⟨inf, zv, g1, g2, g3, g4, g5⟩ := zeroOf_ok (cx := cx) hzt
  have hinf : inf.size = m := by simp [szOf, g1] at hs; exact hs
  have hbi : inf.bytes = by_ := by simp [bytesOf, g1] at hb; exact hb
  have hrow := hH.row hi (show rowAt r.sz r.es [] = some (m, r.es) by simp [rowAt, hn])
  obtain ⟨h0, a1, w', r1, r2, r3, r4, r5, r6, r7, r8, r9⟩ := append_mem (P := P) (w := w) (t := t) (tx := tx) (ty := ty) (elem_run hel) g1 g2 g4 (a := a') (len := len) (cap := cap) (b := (r.hd []).b) (o := (r.hd []).o + off * m) hle (fun hc => by
    obtain ⟨q1, q2⟩ := hcap hc
    obtain ⟨c, E, k1, k2, k3⟩ := hrow.2 (by omega)
    refine ⟨q1, c, E, k1, ?_⟩
    rw [hinf]
    have : (off + cap) * m ≤ (r.hd []).cap * m := Nat.mul_le_mul_right _ q2
    rw [Nat.add_mul] at this
    omega) (x := y) (m := news.length) (vals := vals) (by rw [hinf]; exact hsrc) (by rw [hbi]; exact hbig) h63
  rw [hinf] at r8
  have hlenA : ((r.es.drop off).take len).length = len := by simp; omega
  have happ : HeapOK cx ((HeapOf st1 Hd).set (.inl (d, 0)) (some ⟨m, (r.es.drop off).take len ++ news, appHd h0 off len r.hd g⟩)) w' := by
    have hother : ∀ j, j ≠ .inl (d, 0) → ((HeapOf st1 Hd).set (.inl (d, 0)) (some ⟨m, (r.es.drop off).take len ++ news, appHd h0 off len r.hd g⟩)) j = HeapOf st1 Hd j := fun j hj => Heap.set_ne _ _ hj
    have hgo : ∀ i2 : Ix, (hso : (∀ (x : Nat) (e : List T), news[x]? = some e → ∀ (y : Nat) (t : T), e[y]? = some t → ∀ z zs, t ≠ .s true z zs) ∨ (∃ f, H i2 = some f ∧ f.sz = m ∧ news = f.es ∧ g = f.hd ∧ i2 ≠ i ∧ i2 ≠ .inl (d, 0) ∧ HeapOf st1 Hd i2 = none)) → HeapOK cx ((HeapOf st1 Hd).set (.inl (d, 0)) (some ⟨m, (r.es.drop off).take len ++ news, appHd h0 off len r.hd g⟩)) w' := by
      intro i2 hso
      refine hH.append (i := i) (i2 := i2) (d := .inl (d, 0)) (r := r) (n := m) (off := off) (len := len) (news := news) (g := g) (h0 := h0) h.keep.size hi hn hl ?_ (Heap.set_same _ _ _) ?_ ?_ r4 r3 ?_ r5 ?_ r7
      · rcases hso with hso | ⟨f, q1, q2, q3, q4, q5, q6, q7⟩
        · exact .inl hso
        · exact .inr ⟨f, q1, q2, q3, q4, q5, .inr (by rw [hother _ q6]; exact q7)⟩
      · intro j s hj hs'
        rw [hother j hj] at hs'
        exact hHH j s hj hs'
      · by_cases hdi : i = .inl (d, 0)
        · exact .inl hdi.symm
        · refine .inr ?_
          rw [hother _ hdi]
          cases hx : HeapOf st1 Hd i with
          | none => rfl
          | some s => exact absurd rfl (hHH i s hdi hx).2
      · intro hc
        obtain ⟨c', E, q1, q2, q3, q4⟩ := r8 hc
        refine ⟨c', E, q1, q2, fun x y c E2 hx hy hc2 => ?_, fun x e hx => ⟨(hnews x e hx).1, fun y t hy => ?_⟩⟩
        · have hlt : x * m + y < len * m := idx_lt hx (Nat.le_refl _) hy
          rw [q3 (x * m + y) c E2 hlt hc2]
          congr 1
          have := Nat.add_mul x off m
          omega
        · obtain ⟨u, hu, hok⟩ := (hnews x e hx).2 y t hy
          refine ⟨u, ?_, hok⟩
          have hlt := (List.getElem?_eq_some_iff.1 hu).1
          have := q4 (x * m + y) hlt
          rw [hu] at this
          rw [← this]
          congr 1
          have := Nat.add_mul len x m
          omega
      · intro hc
        rcases r6 hc with ⟨q1, q2⟩ | q
        · exact .inl ⟨q1, by have := (hcap q2).2; omega⟩
        · exact .inr q
    rcases hown with ho | ⟨i2, f, q⟩
    · exact hgo i (.inl ho)
    · exact hgo i2 (.inr ⟨f, q⟩)
  have hkeep : Keep cx w' := r9 cx h.keep (fun hc => (hH.blk _ _ _ _ _ ⟨r, hi, (show rowAt r.sz r.es [] = some (m, r.es) by simp [rowAt, hn]), rfl⟩ (by have := (hcap hc).2; omega)).2)
  have hrel := h.newRoot hfew hk happ hkeep
  refine ⟨_, w', _, r1, hrel, ?_⟩
  refine .c _ _ (.r _ _ _ _ _ _ _ ⟨by rw [app_one_same]; simp, fun e he => by rw [app_one_same] at he; obtain rfl := X.e.inj he; exact Nat.le_refl _⟩ r3 (fun sz es h' hv => ?_))
  obtain ⟨e, q1, _, q3, q4⟩ := hv
  rw [app_one_same] at q1
  obtain rfl := X.e.inj q1
  simp only [rowAt, Option.some.injEq, Prod.mk.injEq] at q3
  obtain ⟨rfl, rfl⟩ := q3
  simp only [if_true, appHd] at q4
  subst q4
  refine ⟨by rw [List.length_append, hlenA]; omega, fun hc => ⟨by rw [r2 hc]; simp, by omega⟩⟩
theorem call_builtinW {c : Call} {b : Builtin} (ho : o.op = .call c) (hc : c.callee = .builtin b) {v : Value} {w' : World} {s : Sem Value} (hb : builtin b c.argTypes o.type (c.args.map fun | .const _ => true | _ => false) (c.args.map a.eval) = (do pure (.value (← s))))
    (hr : s.run P w = .ok v w') : (execOp a.eval o).run P w = .ok (.value v) w' := by
  simp only [execOp, ho]
  simp only [resolve, hc, Sem.run_bind, Sem.run_pure, Result.andThen_ok, invoke]
  refine Eq.trans (congrArg (fun s => Sem.run P s w) hb) ?_
  simp only [Sem.run_bind, hr, Result.andThen_ok, Sem.run_pure]
theorem appendZ_run {t ti ty e : TypeId} {m : Int} {inf : TypeInfo} {zv : Value} (ht : P.underlying t = some (.slice e)) (hti : P.underlying ti = some (.int .i64)) (g1 : P.info? e = some inf) (g2 : inf.zero = some zv) (hm : 0 < m) (hb : m.toNat * inf.bytes ≤ 140737488355328) (hl : m.toNat ≤ 140737488355328) (hs : inf.size ≠ 0) :
    (Builtin.append_ #[t, ti] ty #[.slice none 0 0, .int .i64 m]).run P w = .ok (.slice (some ⟨w.heap.size, 0, none⟩) m.toNat (grownCap w m.toNat 0 e)) (w.drew.alloc (.cells (Builtin.zeroCells zv.cells m.toNat ++ Builtin.zeroCells zv.cells (grownCap w m.toNat 0 e - m.toNat)) e)) := by
  have hw : IntKind.i64.wrap m = m := IntWalk.i64_in m (by omega)
  have c1 : ¬ (m < 0) := by omega
  have c2 : ¬ (m * (inf.bytes : Int) > 281474976710656) := by
    have h3 : ((m.toNat * inf.bytes : Nat) : Int) ≤ ((140737488355328 : Nat) : Int) := Int.ofNat_le.2 hb
    rw [Int.natCast_mul, Int.toNat_of_nonneg (by omega)] at h3
    omega
  have c3 : ¬ (m.toNat ≤ 0) := by omega
  have c3' : ¬ (m ≤ 0) := by omega
  have c4 : ¬ ((m.toNat : Int) > 9223372036854775807) := by omega
  have c4' : ¬ (9223372036854775807 < (m.toNat : Int)) := by omega
  have c5 := growslice_fits (need := m.toNat) (old := 0) (bytes := inf.bytes) (by omega) hb
  have c6 : ¬ (281474976710656 < Builtin.nextslicecap m.toNat 0 * inf.bytes) := by omega
  have c7 : ¬ (m.toNat = 0) := by omega
  have c8 : ¬ (m.toNat * inf.size = 0) := fun h => (Nat.mul_eq_zero.1 h).elim c7 hs
  have hold : (Builtin.firstCells inf.size 0 (.slice none 0 0)).run P w.drew = .ok #[] w.drew := run_firstCells_none _ _ _ _ _
  have c9 : (m == 0) = false := by simp; omega
  simp [Builtin.append_, run_underlying ht, run_underlying hti, sizeOf, typeInfo, zeroValue, g1, g2, asInt, asIntOf, hw, c1, c2, c3, c3', c4', c6, c7, c8, hs, Question.forced, hold, newRow, grownCap]
  intro h; omega
theorem appendZ_ok (h : Rel cx n st Hd a w) (hd : ∀ t, o.dst = some t → t < n) {d : Tmp} (hds : o.dst = some d) {c : Call} {t t' : TypeId} {sO xO : Operand} (hm : (getO sO fun s => getO xO fun x => appendIM P t t' d s x).wp P st Kc)
    (hrunI : ∀ {z : Value} {w' : World}, (Builtin.append_ #[t, t'] o.type #[a.eval sO, a.eval xO]).run P w = .ok z w' → (execOp a.eval o).run P w = .ok (.value z) w')
    (hK : ∀ ws Hd' a' w', Kc ws → Rel cx n (app ws st) Hd' a' w' → KC a' w') : o.wp P a w KC Q := by
  obtain ⟨v1, hv1, hm1⟩ := getO_ok h hm
  obtain ⟨v2, hv2, hm2⟩ := getO_ok h hm1
  unfold appendIM at hm2
  split at hm2
  rotate_left
  · exact hm2.elim
  rename_i m hti hi2
  have e2 := intV_ok hv2 hi2
  unfold appendZM at hm2
  split at hm2
  rotate_left
  · exact hm2.elim
  rename_i e hel
  split at hm2
  rotate_left
  · exact hm2.elim
  rename_i z k by_ hz hs hb
  obtain ⟨hk, ⟨hm0, hzl, hpos, hby, hle⟩, hm3⟩ := fresh_inv hm2
  have e1 := nil_inv hv1
  obtain ⟨inf, zv, g1, g2, g3, g4, g5⟩ := zeroOf_ok (cx := cx) hz
  have hinf : inf.size = k := by simp [szOf, g1] at hs; exact hs
  have hbi : inf.bytes = by_ := by simp [bytesOf, g1] at hb; exact hb
  have hrun := appendZ_run (w := w) (ty := o.type) (elem_run hel) hti g1 g2 hpos (by rw [hbi]; exact hby) hle (by rw [hinf]; exact hm0)
  have hge := grownCap_ge w m.toNat 0 e
  have hdrew : HeapOK cx (HeapOf st Hd) w.drew := ⟨fun i r p sz es a b => h.heap.rows i r p sz es a b, h.heap.inj, h.heap.blk⟩
  have hzs : zv.cells.size = k := by omega
  have hfr := hdrew.fresh (i := .inl (d, 0)) (c := Builtin.zeroCells zv.cells m.toNat ++ Builtin.zeroCells zv.cells (grownCap w m.toNat 0 e - m.toNat)) (E := e) (sz := k) (cap := grownCap w m.toNat 0 e) (es := List.replicate m.toNat z) h.keep.size (by simpa using hge) (by
    rw [Array.size_append, size_zeroCells, size_zeroCells, hzs, ← Nat.add_mul]
    exact Nat.mul_le_mul_right _ (by omega)) (fun x el he => by
    obtain ⟨h1, h2⟩ := List.getElem?_eq_some_iff.1 he
    simp at h1 h2
    subst h2
    refine ⟨hzl, fun y t ht => ?_⟩
    have hy : y < k := by rw [← hzl]; exact (List.getElem?_eq_some_iff.1 ht).1
    have hlt : x * k + y < m.toNat * k := idx_lt (by omega : x < m.toNat) (Nat.le_refl _) hy
    rw [Array.getElem?_append_left (by rw [size_zeroCells, hzs]; exact hlt)]
    have h4 : (x * k + y) % k = y := by rw [Nat.mul_comm, Nat.mul_add_mod, Nat.mod_eq_of_lt hy]
    have h5 := g5 y t ht
    have h6 : (Builtin.zeroCells zv.cells m.toNat)[x * k + y]? = zv.cells[y]? := by
      simp only [Builtin.zeroCells, hzs]
      rw [Array.getElem?_map, Array.getElem?_range, if_pos hlt]
      simp [hzs, h4, hy]
    rw [h6]
    exact h5)
  have hr := h.newRoot (Fewer.refl st Hd) hk hfr (h.keep.drew.alloc _)
  exact root_wp hr hds hd (ws := [(.k (d, 0), .e ⟨0, k, List.replicate m.toNat z⟩)]) rfl (y := .slice (some ⟨w.heap.size, 0, none⟩) m.toNat (grownCap w m.toNat 0 e)) (hrunI (by rw [e1, e2]; exact hrun)) (vok_newS (b := w.heap.size) (cap := grownCap w m.toNat 0 e) (app_one_same _ _ _) (by simp) hge (by simp [hdNew])) hm3 hK
theorem op_append (h : Rel cx n st Hd a w) (hd : ∀ t, o.dst = some t → t < n) {c : Call} (ho : o.op = .call c) (hc : c.callee = .builtin .append) (hm : (opM P md o).wp P st Kc)
    (hK : ∀ ws Hd' a' w', Kc ws → Rel cx n (app ws st) Hd' a' w' → KC a' w') : o.wp P a w KC Q := by
  simp only [opM, ho, hc] at hm
  cases hds : o.dst with
  | none => simp only [hds] at hm; exact hm.elim
  | some d =>
  simp only [hds] at hm
  split at hm
  rotate_left
  · exact hm.elim
  rename_i sO xO t t' ha ht
  cases hel' : elemOf P t' with
  | none =>
    simp only [hel'] at hm
    have hargs : c.args = #[sO, xO] := by rw [← Array.toArray_toList (xs := c.args), ha]
    have htys : c.argTypes = #[t, t'] := by rw [← Array.toArray_toList (xs := c.argTypes), ht]
    refine appendZ_ok (c := c) h hd hds hm (fun hrun => ?_) hK
    refine call_builtinW ho hc (s := Builtin.append_ c.argTypes o.type (c.args.map a.eval)) rfl ?_
    rw [hargs, htys]
    simpa using hrun
  | some e' =>
  simp only [hel'] at hm
  obtain ⟨v1, hv1, hm1⟩ := getO_ok h hm
  obtain ⟨v2, hv2, hm2⟩ := getO_ok h hm1
  unfold appendM at hm2
  cases hel : elemOf P t with
  | none => simp [hel, M.wp] at hm2
  | some el =>
  cases hs : szOf P el with
  | none => simp [hel, hs, M.wp] at hm2
  | some m =>
  cases hb : bytesOf P el with
  | none => simp [hel, hs, hb, M.wp] at hm2
  | some by_ =>
  simp only [hel, hs, hb] at hm2
  obtain ⟨hk, ⟨hm0, hz⟩, hm3⟩ := fresh_inv hm2
  obtain ⟨ov, news, vals, g, hsrc, hnews, hov, hm4⟩ := src_ok h hm0 (elem_run hel') hv2 hm3
  have hargs : c.args = #[sO, xO] := by rw [← Array.toArray_toList (xs := c.args), ha]
  have htys : c.argTypes = #[t, t'] := by rw [← Array.toArray_toList (xs := c.argTypes), ht]
  -- what is left behind the source
  have hfew : Fewer st (app ov st) Hd Hd := by
    rcases hov with ⟨rfl, _⟩ | ⟨k, e, rfl, he, _⟩
    · exact Fewer.refl _ _
    · exact fewer_gone he
  have hovk : ∀ (k : K) (e : Ent), app ov st (.k k) = .e e → st (.k k) = .e e ∧ (∀ (k2 : K) (e2 : Ent), ov = [(.k k2, .gone)] → k2 ≠ k) := by
    intro k e he
    rcases hov with ⟨rfl, _⟩ | ⟨k2, e2, rfl, he2, _⟩
    · exact ⟨he, fun k2 e2 h => by simp at h⟩
    · by_cases hkk : k = k2
      · subst hkk; rw [app_one_same] at he; simp at he
      · rw [app_one_ne _ _ (fun e => hkk (Loc.k.inj e))] at he
        refine ⟨he, fun k3 e3 h => ?_⟩
        obtain rfl : k2 = k3 := by simpa using h
        exact Ne.symm hkk
  have fin : ∀ {ws : Ws} {st1 : St} {len : Nat} {es1 : List (List T)} {z : Value} {w' : World} {hd1 : Path → Hdr}, (Builtin.append_ #[t, t'] o.type #[a.eval sO, a.eval xO]).run P w = .ok z w' → app ((.k (d, 0), .e ⟨0, m, es1⟩) :: ws) st = app [(.k (d, 0), .e ⟨0, m, es1⟩)] st1 →
      Rel cx n (app [(.k (d, 0), .e ⟨0, m, es1⟩)] st1) (fun k' => if k' = (d, 0) then hd1 else Hd k') a w' → VOK cx (app [(.k (d, 0), .e ⟨0, m, es1⟩)] st1) (fun k' => if k' = (d, 0) then hd1 else Hd k') (.c (.r (d, 0) 0 [] 0 len)) z →
      Kc ((.s d, .v (.c (.r (d, 0) 0 [] 0 len))) :: (.k (d, 0), .e ⟨0, m, es1⟩) :: ws) → o.wp P a w KC Q := by
    intro ws st1 len es1 z w' hd1 hrun hst hrel hv hkc
    refine root_wp hrel hds hd (ws := (.k (d, 0), .e ⟨0, m, es1⟩) :: ws) hst (y := z) ?_ hv hkc hK
    refine call_builtinW ho hc (s := Builtin.append_ c.argTypes o.type (c.args.map a.eval)) rfl ?_
    rw [hargs, htys]
    simpa using hrun
  have hnone : ∀ (i2 : Ix) (k2 : K) (e2 : Ent), ov = [(.k k2, .gone)] → st (.k k2) = .e e2 → i2 = Sum.inl k2 → i2 ≠ .inl (d, 0) := by
    rintro i2 k2 e2 _ he rfl hcon
    rw [Sum.inl.inj hcon, hk] at he
    simp at he
  split at hm4
  · -- onto nothing
    obtain ⟨⟨q1, q2⟩, hm5⟩ := hm4
    have hy1 := nil_inv hv1
    have hnoD : HeapOf (app ov st) Hd (.inl (d, 0)) = none := by
      cases hx : app ov st (.k (d, 0)) with
      | e e => have := (hovk _ _ hx).1; rw [hk] at this; simp at this
      | none => simp [HeapOf, hx]
      | gone => simp [HeapOf, hx]
      | v v => simp [HeapOf, hx]
    obtain ⟨z, w', hd1, k1, k2, k3⟩ := append_core (a := a) (tx := t') (ty := o.type) h (h.heap.empty h.keep.size (.inl (d, 0)) m) hel hs hb hz hk hfew (i := .inl (d, 0)) (Heap.set_same _ _ _) rfl (off := 0) (len := 0) (by simp) (a' := none) (cap := 0) (Nat.le_refl _) (fun h => absurd rfl h) (fun j s hj hs' => by
        refine ⟨?_, hj⟩
        rw [Heap.set_ne _ _ hj]
        cases j with
        | inr x => simp [HeapOf] at hs'
        | inl k' =>
          cases hx : app ov st (.k k') with
          | e e =>
            rw [HeapOf_some hx] at hs'
            rw [HeapOf_some (hovk _ _ hx).1]
            exact hs'
          | none => simp [HeapOf, hx] at hs'
          | gone => simp [HeapOf, hx] at hs'
          | v v => simp [HeapOf, hx] at hs') hsrc hnews (by
        rcases hov with ⟨_, ho1⟩ | ⟨k, e, rfl, he, he2, he3, he4⟩
        · exact .inl ho1
        · have hne := hnone (.inl k) k e rfl he rfl
          exact .inr ⟨.inl k, _, by rw [Heap.set_ne _ _ hne]; exact HeapOf_some he, he2, he3, he4, hne, hne, by simp [HeapOf, app_one_same]⟩) (by simpa using q1) (by simpa using q2)
    refine fin (ws := ov) (st1 := app ov st) (es1 := news) (len := news.length) (z := z) (w' := w') (hd1 := hd1) (by rw [hy1]; exact k1) (app_cons _ _ _ _) (by simpa using k2) (by simpa using k3) hm5
  · rename_i k ver p off len
    obtain ⟨e, sz, es, he, hver, hr, hm5⟩ := getR_inv hm4
    obtain ⟨⟨rfl, hle2, q1, q2⟩, hm6⟩ := hm5
    obtain ⟨he1, hkne⟩ := hovk k e he
    cases hv1 with | c _ _ hc1 => 
    generalize hyy : a.eval sO = yy at hc1
    cases hc1 with | r _ _ _ _ _ a' cap hkn hlc hvl =>
    obtain ⟨h2, h3⟩ := hvl _ _ _ ⟨e, he1, hver, hr, rfl⟩
    have hkd : k ≠ (d, 0) := fun h => by rw [h, hk] at he1; simp at he1
    cases p with
    | nil =>
      simp only [rowAt, Option.some.injEq, Prod.mk.injEq] at hr
      obtain ⟨hr1, rfl⟩ := hr
      have hst1 : app [(.k k, .gone)] (app ov st) (.k k) = .gone := app_one_same _ _ _
      obtain ⟨z, w', hd1, k1, k2, k3⟩ := append_core (a := a) (tx := t') (ty := o.type) h h.heap hel hs hb hz hk (hfew.trans (fewer_gone he)) (i := .inl k) (HeapOf_some he1) hr1 (off := off) (len := len) hle2 (a' := a') (cap := cap) hlc h3 (fun j s hj hs' => by
          cases j with
          | inr x => simp [HeapOf] at hs'
          | inl k' =>
            by_cases hkk : k' = k
            · subst hkk; simp [HeapOf, hst1] at hs'
            · refine ⟨?_, fun h => hkk (Sum.inl.inj h)⟩
              have h7 : app [(.k k, .gone)] (app ov st) (.k k') = app ov st (.k k') := app_one_ne _ _ (fun e => hkk (Loc.k.inj e))
              cases hx : app ov st (.k k') with
              | e e =>
                rw [HeapOf_some (h7.trans hx)] at hs'
                rw [HeapOf_some (hovk _ _ hx).1]
                exact hs'
              | none => simp [HeapOf, h7, hx] at hs'
              | gone => simp [HeapOf, h7, hx] at hs'
              | v v => simp [HeapOf, h7, hx] at hs') hsrc hnews (by
          rcases hov with ⟨_, ho1⟩ | ⟨k2, e2, rfl, he2, he3, he4, he5⟩
          · exact .inl ho1
          · have hne := hnone (.inl k2) k2 e2 rfl he2 rfl
            have hk2 := hkne k2 e2 rfl
            refine .inr ⟨.inl k2, _, HeapOf_some he2, he3, he4, he5, fun h => hk2 (Sum.inl.inj h), hne, ?_⟩
            have h7 : app [(.k k, .gone)] (app [(.k k2, .gone)] st) (.k k2) = .gone := by rw [app_one_ne _ _ (fun e => hk2 (Loc.k.inj e)), app_one_same]
            simp [HeapOf, h7]) q1 q2
      refine fin (ws := (.k k, .gone) :: ov) (st1 := app [(.k k, .gone)] (app ov st)) (z := z) (w' := w') (hd1 := hd1) (by rw [hyy]; exact k1) ?_ k2 k3 hm6
      rw [app_cons, app_cons (.k k)]
    | cons x p =>
      obtain ⟨q, a0, b0, hq⟩ := path_split x p
      have hg : gone k (x :: p) e = (.k k, .e { e with es := setAt e.es q e.sz a0 b0 .d }) := by
        simp only [gone, holed]
        have h1 : (x :: p).dropLast = q := by rw [hq]; simp
        have h2 : (x :: p).getLast? = some (a0, b0) := by rw [hq]; simp
        simp only [h1, h2, Option.getD_some]
      rw [hg] at hm6
      rw [hq] at hr h3
      obtain ⟨s1, r1, hr1, hcell⟩ := rowAt_snoc hr
      have hset : setAt e.es q e.sz a0 b0 .d = setRow e.es q (setCell r1 a0 b0 .d) := by simp [setAt, hr1]
      have hdet := h.heap.detach (i2 := .inr (0, 0)) (HeapOf_some he1) hr1 rfl hcell
      have hst1 : app [(.k k, .e { e with es := setAt e.es q e.sz a0 b0 .d })] (app ov st) (.k k) = .e { e with es := setAt e.es q e.sz a0 b0 .d } := app_one_same _ _ _
      obtain ⟨z, w', hd1, k1, k2, k3⟩ := append_core (a := a) (tx := t') (ty := o.type) (r := ⟨sz, es, fun q' => Hd k (q ++ (a0, b0) :: q')⟩) h hdet hel hs hb hz hk (st1 := app [(.k k, .e { e with es := setAt e.es q e.sz a0 b0 .d })] (app ov st)) (hfew.trans (by rw [hset]; exact fewer_row he (fun p sz es h => hole_row hr1 p sz es h))) (i := .inr (0, 0)) (Heap.set_same _ _ _) rfl (off := off) (len := len) hle2 (a' := a') (cap := cap) hlc h3 (fun j s hj hs' => by
          cases j with
          | inr x => simp [HeapOf] at hs'
          | inl k' =>
            refine ⟨?_, by simp⟩
            rw [Heap.set_ne _ _ (by simp)]
            by_cases hkk : k' = k
            · subst hkk
              rw [HeapOf_some hst1] at hs'
              rw [Heap.set_same, ← hs', hset]
            · rw [Heap.set_ne _ _ (fun h => hkk (Sum.inl.inj h))]
              have h7 : app [(.k k, .e { e with es := setAt e.es q e.sz a0 b0 .d })] (app ov st) (.k k') = app ov st (.k k') := app_one_ne _ _ (fun e => hkk (Loc.k.inj e))
              cases hx : app ov st (.k k') with
              | e e =>
                rw [HeapOf_some (h7.trans hx)] at hs'
                rw [HeapOf_some (hovk _ _ hx).1]
                exact hs'
              | none => simp [HeapOf, h7, hx] at hs'
              | gone => simp [HeapOf, h7, hx] at hs'
              | v v => simp [HeapOf, h7, hx] at hs') hsrc hnews (by
          rcases hov with ⟨_, ho1⟩ | ⟨k2, e2, rfl, he2, he3, he4, he5⟩
          · exact .inl ho1
          · have hne := hnone (.inl k2) k2 e2 rfl he2 rfl
            have hk2 := hkne k2 e2 rfl
            refine .inr ⟨.inl k2, _, by rw [Heap.set_ne _ _ (by simp), Heap.set_ne _ _ (fun h => hk2 (Sum.inl.inj h))]; exact HeapOf_some he2, he3, he4, he5, by simp, hne, ?_⟩
            have h7 : app [(.k k, .e { e with es := setAt e.es q e.sz a0 b0 .d })] (app [(.k k2, .gone)] st) (.k k2) = .gone := by rw [app_one_ne _ _ (fun e => hk2 (Loc.k.inj e)), app_one_same]
            simp [HeapOf, h7]) q1 q2
      refine fin (ws := (.k k, .e { e with es := setAt e.es q e.sz a0 b0 .d }) :: ov) (st1 := app [(.k k, .e { e with es := setAt e.es q e.sz a0 b0 .d })] (app ov st)) (z := z) (w' := w') (hd1 := hd1) (by rw [hyy]; exact k1) ?_ k2 k3 hm6
      rw [app_cons, app_cons (.k k)]
  · exact hm4.elim
end
end Go.Abs
namespace Go.Abs
open Go
variable [Amb]
theorem ownEs_at : ∀ {es : List (List T)} (h : ownEs es = true) {i j : Nat} {e : List T} {t : T} (hi : es[i]? = some e) (hj : e[j]? = some t), ownT t = true
  | [], h, i, j, e, t, hi, hj => by simp at hi
  | e0 :: es, h, i, j, e, t, hi, hj => by
    simp only [ownEs, Bool.and_eq_true] at h
    cases i with
    | succ i => exact ownEs_at h.2 (by simpa using hi) hj
    | zero =>
      simp at hi
      subst hi
      have : ∀ {l : List T}, ownE l = true → ∀ {j : Nat} {t : T}, l[j]? = some t → ownT t = true := by
        intro l
        induction l with
        | nil => intro _ j t h; simp at h
        | cons a l ih =>
          intro h j t hj
          simp only [ownE, Bool.and_eq_true] at h
          cases j with
          | zero => simp at hj; subst hj; exact h.1
          | succ j => exact ih h.2 (by simpa using hj)
      exact this h.1 hj
theorem ownE_at {l : List T} (h : ownE l = true) {j : Nat} {t : T} (hj : l[j]? = some t) : ownT t = true :=
  ownEs_at (es := [l]) (by simp [ownEs, h]) (i := 0) rfl hj
theorem ownEs_row {es : List (List T)} {p : Path} {sz sz' : Nat} {es' : List (List T)} (h : ownEs es = true) (hr : rowAt sz es p = some (sz', es')) : ownEs es' = true := by
  induction p generalizing sz es with
  | nil => simp only [rowAt, Option.some.injEq, Prod.mk.injEq] at hr; rw [← hr.2]; exact h
  | cons x p ih =>
    obtain ⟨i, j⟩ := x
    simp only [rowAt] at hr
    cases hc : cellAt es i j with
    | none => simp [hc] at hr
    | some t =>
      rw [hc] at hr
      unfold cellAt at hc
      cases he : es[i]? with
      | none => simp [he] at hc
      | some e =>
        rw [he] at hc
        have ho := ownEs_at h he hc
        cases t with
        | v x => simp at hr
        | d => simp at hr
        | s own z zs =>
          cases own with
          | false => simp [ownT] at ho
          | true =>
            simp only [] at hr
            simp only [ownT, Bool.true_and] at ho
            exact ih ho hr
theorem TOK.rebase {cx cx' : Cx} {h : Hdr} {t : T} {y : Value} (ho : ownT t = true) (hy : TOK cx h t y) : TOK cx' h t y := by
  cases t with
  | v x => exact hy
  | d => trivial
  | s own z zs =>
    cases own with
    | true => exact hy
    | false => simp [ownT] at ho
theorem HeapOK.rebase {cx cx' : Cx} {H : Heap} {w : World} (hk : HeapOK cx H w) (ho : ∀ i r, H i = some r → ownEs r.es = true)
    (hb : ∀ i p sz es h, H.at i p sz es h → h.cap ≠ 0 → cx'.w0.heap.size ≤ h.b ∨ cx'.X h.b) : HeapOK cx' H w := by
  refine ⟨fun i r p sz es hi hr => ?_, hk.inj, fun i p sz es h hat hc => ⟨(hk.blk i p sz es h hat hc).1, hb i p sz es h hat hc⟩⟩
  obtain ⟨h1, h2⟩ := hk.rows i r p sz es hi hr
  refine ⟨h1, fun hc => ?_⟩
  obtain ⟨c, E, k1, k2, k3⟩ := h2 hc
  refine ⟨c, E, k1, k2, fun i' e he => ⟨(k3 i' e he).1, fun j t ht => ?_⟩⟩
  obtain ⟨y, hy, hok⟩ := (k3 i' e he).2 j t ht
  exact ⟨y, hy, hok.rebase (ownEs_at (ownEs_row (ho i r hi) hr) he ht)⟩
theorem HeapOK.reindex {cx : Cx} {H H' : Heap} {w : World} (hk : HeapOK cx H w) (φ : Ix → Ix) (h : ∀ i r, H' i = some r → H (φ i) = some r) (hinj : ∀ i j r s, H' i = some r → H' j = some s → φ i = φ j → i = j) : HeapOK cx H' w := by
  have key : ∀ {i p sz es g}, Heap.at H' i p sz es g → H.at (φ i) p sz es g := by
    rintro i p sz es g ⟨r, hi, hr, hh⟩; exact ⟨r, h i r hi, hr, hh⟩
  refine ⟨fun i r p sz es hi hr => hk.rows _ r p sz es (h i r hi) hr, fun i p sz es g i' p' sz' es' g' h1 h2 hc hc' hb => ?_, fun i p sz es g h1 => hk.blk _ _ _ _ _ (key h1)⟩
  have := hk.inj _ _ _ _ _ _ _ _ _ _ (key h1) (key h2) hc hc' hb
  obtain ⟨r, hr, _⟩ := h1
  obtain ⟨s, hs, _⟩ := h2
  exact ⟨hinj i i' r s hr hs this.1, this.2⟩
theorem HeapOK.moved {cx : Cx} {H : Heap} {w w' : World} (hk : HeapOK cx H w) (hs : w.heap.size ≤ w'.heap.size) (hw : ∀ i p sz es h, H.at i p sz es h → h.cap ≠ 0 → w'.heap[h.b]? = w.heap[h.b]?) : HeapOK cx H w' :=
  ⟨fun i r p sz es hi hr => (hk.rows i r p sz es hi hr).congr (fun hc => hw _ _ _ _ _ ⟨r, hi, hr, rfl⟩ hc) (fun _ _ _ _ _ => rfl), hk.inj, fun i p sz es h hat hc => ⟨by have := (hk.blk i p sz es h hat hc).1; omega, (hk.blk i p sz es h hat hc).2⟩⟩
theorem HeapOK.union {cx : Cx} {A B H : Heap} {w : World} (ha : HeapOK cx A w) (hb : HeapOK cx B w) (h : ∀ i r, H i = some r → A i = some r ∨ B i = some r)
    (hd : ∀ i p sz es g i' p' sz' es' g', A.at i p sz es g → B.at i' p' sz' es' g' → g.cap ≠ 0 → g'.cap ≠ 0 → g.b ≠ g'.b) : HeapOK cx H w := by
  have key : ∀ {i p sz es g}, Heap.at H i p sz es g → A.at i p sz es g ∨ B.at i p sz es g := by
    rintro i p sz es g ⟨r, hi, hr, hh⟩
    exact (h i r hi).imp (fun h => ⟨r, h, hr, hh⟩) (fun h => ⟨r, h, hr, hh⟩)
  refine ⟨fun i r p sz es hi hr => (h i r hi).elim (fun h => ha.rows _ r p sz es h hr) (fun h => hb.rows _ r p sz es h hr), fun i p sz es g i' p' sz' es' g' h1 h2 hc hc' hE => ?_, fun i p sz es g h1 => (key h1).elim (fun h => ha.blk _ _ _ _ _ h) (fun h => hb.blk _ _ _ _ _ h)⟩
  rcases key h1 with h1 | h1 <;> rcases key h2 with h2 | h2
  · exact ha.inj _ _ _ _ _ _ _ _ _ _ h1 h2 hc hc' hE
  · exact absurd hE (hd _ _ _ _ _ _ _ _ _ _ h1 h2 hc hc')
  · exact absurd hE.symm (hd _ _ _ _ _ _ _ _ _ _ h2 h1 hc' hc)
  · exact hb.inj _ _ _ _ _ _ _ _ _ _ h1 h2 hc hc' hE
def noX : Nat → Prop := fun _ => False
theorem cell_lt {w : World} {b o : Nat} {y : Value} (h : w.cell? ⟨b, o, none⟩ = some y) : b < w.heap.size := by
  apply Classical.byContradiction
  intro hb
  simp [World.cell?, Array.getElem?_eq_none (by omega : w.heap.size ≤ b)] at h
theorem cell_same {w w' : World} {b o : Nat} (h : w'.heap[b]? = w.heap[b]?) : w'.cell? ⟨b, o, none⟩ = w.cell? ⟨b, o, none⟩ := by
  simp only [World.cell?, h]
theorem Bor.keep {cx : Cx} {w : World} (hk : Keep cx w) {y : Value} {sz : Nat} {es : List (List T)} (h : Bor cx.w0 cx.X y sz es) : Bor w noX y sz es := by
  refine Bor.rec (motive_1 := fun y sz es _ => Bor w noX y sz es) (motive_2 := fun t y _ => BorT w noX t y) ?_ ?_ ?_ ?_ h
  · intro a cap sz es b o g hl hsz ha hc ht ih
    refine .mk a cap sz es b o g hl hsz (ha.imp id fun h => ⟨h.1, fun h => h⟩) (fun i e j t hi hj => ?_) ih
    have h1 := hc i e j t hi hj
    rcases ha with rfl | ⟨_, hX⟩
    · simp at hi
    · rw [cell_same (hk.block b (cell_lt h1) hX)]
      exact h1
  · exact fun x => .v x
  · exact fun x => .d x
  · exact fun y sz es _ ih => .s y sz es ih
theorem borEs_eq : ∀ (es : List (List T)), borEs es = es.map borE
  | [] => rfl
  | e :: es => by simp [borEs, borEs_eq es]
theorem borE_eq : ∀ (e : List T), borE e = e.map borT
  | [] => rfl
  | t :: ts => by simp [borE, borE_eq ts]
theorem borEs_get {es : List (List T)} {i : Nat} {e : List T} (h : (borEs es)[i]? = some e) : ∃ e0, es[i]? = some e0 ∧ e = borE e0 := by
  rw [borEs_eq, List.getElem?_map] at h
  cases hi : es[i]? with
  | none => simp [hi] at h
  | some e0 => rw [hi] at h; simp at h; exact ⟨e0, rfl, h.symm⟩
theorem borE_get {e : List T} {i : Nat} {t : T} (h : (borE e)[i]? = some t) : ∃ t0, e[i]? = some t0 ∧ t = borT t0 := by
  rw [borE_eq, List.getElem?_map] at h
  cases hi : e[i]? with
  | none => simp [hi] at h
  | some e0 => rw [hi] at h; simp at h; exact ⟨e0, rfl, h.symm⟩
theorem borE_length (e : List T) : (borE e).length = e.length := by rw [borE_eq, List.length_map]
theorem borEs_length (e : List (List T)) : (borEs e).length = e.length := by rw [borEs_eq, List.length_map]
theorem row_lent {cx : Cx} {w : World} (hkp : Keep cx w) {r : HRow} : ∀ (N : Nat) (sz : Nat) (es : List (List T)) (p : Path), SizeOf.sizeOf es ≤ N → (∀ q sz' es', rowAt sz es q = some (sz', es') → RowOK cx w (fun i j => r.hd (p ++ q ++ [(i, j)])) sz' es' (r.hd (p ++ q))) →
    ∀ (off len cap : Nat) (a : Option Addr), off + len ≤ es.length → len ≤ cap → (cap ≠ 0 → a = some ⟨(r.hd p).b, (r.hd p).o + off * sz, none⟩ ∧ off + cap ≤ (r.hd p).cap) →
    Bor w noX (.slice a len cap) sz (borEs ((es.drop off).take len)) := by
  intro N
  induction N with
  | zero => intro sz es p hN; cases es <;> simp at hN
  | succ N ih =>
  intro sz es p hN hrows off len cap a hl hle hcap
  have hlen : (borEs ((es.drop off).take len)).length = len := by rw [borEs_length]; simp; omega
  by_cases h0 : len = 0
  · subst h0
    have : borEs ((es.drop off).take 0) = [] := by simp [borEs]
    rw [this]
    exact .mk a cap sz [] 0 0 (fun _ _ => undef) (by simp) (fun i e h => by simp at h) (.inl rfl) (fun i e j t h => by simp at h) (fun i e j t h => by simp at h)
  · obtain ⟨rfl, h2⟩ := hcap (by omega)
    have hrow := hrows [] sz es rfl
    simp only [List.append_nil] at hrow
    obtain ⟨c, E, k1, k2, k3⟩ := hrow.2 (show (r.hd p).cap ≠ 0 by omega)
    have hget : ∀ (i : Nat) (e : List T), (borEs ((es.drop off).take len))[i]? = some e → ∃ e0, es[off + i]? = some e0 ∧ e = borE e0 := by
      intro i e hi
      have hil := (List.getElem?_eq_some_iff.1 hi).1
      obtain ⟨e0, h3, rfl⟩ := borEs_get hi
      rw [List.getElem?_take_of_lt (by omega), List.getElem?_drop] at h3
      exact ⟨e0, h3, rfl⟩
    have := Bor.mk (w := w) (X := noX) (some ⟨(r.hd p).b, (r.hd p).o + off * sz, none⟩) cap sz (borEs ((es.drop off).take len)) (r.hd p).b ((r.hd p).o + off * sz) (fun i j => c.getD ((r.hd p).o + ((off + i) * sz + j)) undef) (by omega) (fun i e hi => ?_) (.inr ⟨rfl, fun h => h⟩) (fun i e j t hi hj => ?_) (fun i e j t hi hj => ?_)
    · rw [hlen] at this; exact this
    · obtain ⟨e0, h3, rfl⟩ := hget i e hi
      rw [borE_length]
      exact (k3 _ e0 h3).1
    · obtain ⟨e0, h3, rfl⟩ := hget i e hi
      obtain ⟨t0, h4, rfl⟩ := borE_get hj
      obtain ⟨u, hu, _⟩ := (k3 _ e0 h3).2 j t0 h4
      simp only [World.cell?, k1]
      rw [show (r.hd p).o + off * sz + (i * sz + j) = (r.hd p).o + ((off + i) * sz + j) by have := Nat.add_mul off i sz; omega, Array.getD_eq_getD_getElem?, hu]
      rfl
    · obtain ⟨e0, h3, rfl⟩ := hget i e hi
      obtain ⟨t0, h4, rfl⟩ := borE_get hj
      obtain ⟨u, hu, hok⟩ := (k3 _ e0 h3).2 j t0 h4
      rw [Array.getD_eq_getD_getElem?, hu]
      simp only [Option.getD_some]
      cases t0 with
      | v x => cases hok; exact .v _
      | d => exact .d _
      | s own z zs =>
        simp only [borT]
        refine .s _ _ _ ?_
        cases own with
        | false =>
          have hb : Bor w noX u z zs := Bor.keep hkp hok
          have hbb : ∀ (y : Value) (z : Nat) (zs : List (List T)), Bor w noX y z zs → Bor w noX y z (borEs zs) := by
            intro y z zs h
            refine Bor.rec (motive_1 := fun y sz es _ => Bor w noX y sz (borEs es)) (motive_2 := fun t y _ => BorT w noX (borT t) y) ?_ ?_ ?_ ?_ h
            · intro a cap sz es b o g hl hsz ha hc ht ih
              have := Bor.mk (w := w) (X := noX) a cap sz (borEs es) b o g (by rw [borEs_length]; exact hl) (fun i e hi => by obtain ⟨e0, h5, rfl⟩ := borEs_get hi; rw [borE_length]; exact hsz i e0 h5) (ha.imp (fun h => by rw [h]; rfl) id)
                (fun i e j t hi hj => by obtain ⟨e0, h5, rfl⟩ := borEs_get hi; obtain ⟨t0, h6, rfl⟩ := borE_get hj; exact hc i e0 j t0 h5 h6)
                (fun i e j t hi hj => by obtain ⟨e0, h5, rfl⟩ := borEs_get hi; obtain ⟨t0, h6, rfl⟩ := borE_get hj; exact ih i e0 j t0 h5 h6)
              rw [borEs_length] at this
              exact this
            · exact fun x => .v x
            · exact fun x => .d x
            · exact fun y sz es _ ih => .s y sz _ ih
          exact hbb _ _ _ hb
        | true =>
          obtain ⟨a1, rfl, ha1⟩ := hok
          have hcell : cellAt es (off + i) j = some (.s true z zs) := by simp [cellAt, h3, h4]
          have hsz : SizeOf.sizeOf zs ≤ N := by
            have h7 : SizeOf.sizeOf (T.s true z zs) < SizeOf.sizeOf e0 := by
              have := List.sizeOf_lt_of_mem (List.mem_of_getElem? h4)
              omega
            have h8 : SizeOf.sizeOf e0 < SizeOf.sizeOf es := List.sizeOf_lt_of_mem (List.mem_of_getElem? h3)
            simp at h7
            omega
          have hsub := ih z zs (p ++ [(off + i, j)]) hsz (fun q sz' es' hq => by
            have := hrows ((off + i, j) :: q) sz' es' (by simp only [rowAt, hcell]; exact hq)
            simpa using this) 0 zs.length (r.hd (p ++ [(off + i, j)])).cap a1 (by simp) (by
            have := (hrows [(off + i, j)] z zs (by simp only [rowAt, hcell])).1
            simpa using this) (fun hc => ⟨by simpa using ha1 hc, by simp⟩)
          simpa using hsub
end Go.Abs
namespace Go.Abs
open Go
variable [Amb]
theorem szEs_at : ∀ {es : List (List T)} (h : szEs es = true) {i : Nat} {e : List T} (hi : es[i]? = some e), szE e = true
  | [], h, i, e, hi => by simp at hi
  | e0 :: es, h, i, e, hi => by
    simp only [szEs, Bool.and_eq_true] at h
    cases i with
    | zero => simp at hi; subst hi; exact h.1
    | succ i => exact szEs_at h.2 (by simpa using hi)
theorem szE_at : ∀ {es : List T} (h : szE es = true) {i : Nat} {e : T} (hi : es[i]? = some e), szT e = true
  | [], h, i, e, hi => by simp at hi
  | e0 :: es, h, i, e, hi => by
    simp only [szE, Bool.and_eq_true] at h
    cases i with
    | zero => simp at hi; subst hi; exact h.1
    | succ i => exact szE_at h.2 (by simpa using hi)
mutual
theorem szT_bor : ∀ t, szT (borT t) = szT t
  | .v _ => rfl
  | .d => rfl
  | .s _ sz es => by simp only [borT, szT, szEs_bor es]
theorem szE_bor : ∀ t, szE (borE t) = szE t
  | [] => rfl
  | t :: ts => by simp only [borE, szE, szT_bor t, szE_bor ts]
theorem szEs_bor : ∀ t, szEs (borEs t) = szEs t
  | [] => rfl
  | t :: ts => by simp only [borEs, szEs, szE_bor t, szEs_bor ts]
end
theorem Bor.keepX {cx : Cx} {w : World} (hk : Keep cx w) {X' : Nat → Prop} (hX' : ∀ b, b < cx.w0.heap.size → ¬ cx.X b → ¬ X' b) {y : Value} {sz : Nat} {es : List (List T)} (h : Bor cx.w0 cx.X y sz es) : sz ≠ 0 → szEs es = true → Bor w X' y sz es := by
  refine Bor.rec (motive_1 := fun y sz es _ => sz ≠ 0 → szEs es = true → Bor w X' y sz es) (motive_2 := fun t y _ => szT t = true → BorT w X' t y) ?_ ?_ ?_ ?_ h
  · intro a cap sz es b o g hl hsz ha hc ht ih h0 hE
    have hblk : es = [] ∨ (a = some ⟨b, o, none⟩ ∧ ¬ cx.X b ∧ b < cx.w0.heap.size) := by
      rcases ha with rfl | ⟨h1, h2⟩
      · exact .inl rfl
      · cases es with
        | nil => exact .inl rfl
        | cons e es =>
          have h3 := hsz 0 e rfl
          cases e with
          | nil => simp at h3; exact absurd h3.symm h0
          | cons t e => exact .inr ⟨h1, h2, cell_lt (hc 0 (t :: e) 0 t rfl rfl)⟩
    refine .mk a cap sz es b o g hl hsz (hblk.imp id fun h => ⟨h.1, hX' _ h.2.2 h.2.1⟩) (fun i e j t hi hj => ?_) (fun i e j t hi hj => ih i e j t hi hj (szE_at (szEs_at hE hi) hj))
    have h1 := hc i e j t hi hj
    rcases hblk with rfl | ⟨_, hX, _⟩
    · simp at hi
    · rw [cell_same (hk.block b (cell_lt h1) hX)]
      exact h1
  · exact fun x _ => .v x
  · exact fun x _ => .d x
  · exact fun y sz es _ ih h => by
      simp only [szT, Bool.and_eq_true, bne_iff_ne] at h
      exact .s y sz es (ih h.1 h.2)
theorem row_lentX {cx : Cx} {w : World} (hkp : Keep cx w) {r : HRow} {X' : Nat → Prop} (hX' : ∀ b, b < cx.w0.heap.size → ¬ cx.X b → ¬ X' b) : ∀ (N : Nat) (sz : Nat) (es : List (List T)) (p : Path), SizeOf.sizeOf es ≤ N → sz ≠ 0 → (∀ q sz' es', rowAt sz es q = some (sz', es') → (r.hd (p ++ q)).cap ≠ 0 → ¬ X' (r.hd (p ++ q)).b) → (∀ q sz' es', rowAt sz es q = some (sz', es') → RowOK cx w (fun i j => r.hd (p ++ q ++ [(i, j)])) sz' es' (r.hd (p ++ q))) →
    ∀ (off len cap : Nat) (a : Option Addr), szEs ((es.drop off).take len) = true → off + len ≤ es.length → len ≤ cap → (cap ≠ 0 → a = some ⟨(r.hd p).b, (r.hd p).o + off * sz, none⟩ ∧ off + cap ≤ (r.hd p).cap) →
    Bor w X' (.slice a len cap) sz (borEs ((es.drop off).take len)) := by
  intro N
  induction N with
  | zero => intro sz es p hN; cases es <;> simp at hN
  | succ N ih =>
  intro sz es p hN hs0 hXr hrows off len cap a hszE hl hle hcap
  have hlen : (borEs ((es.drop off).take len)).length = len := by rw [borEs_length]; simp; omega
  by_cases h0 : len = 0
  · subst h0
    have : borEs ((es.drop off).take 0) = [] := by simp [borEs]
    rw [this]
    exact .mk a cap sz [] 0 0 (fun _ _ => undef) (by simp) (fun i e h => by simp at h) (.inl rfl) (fun i e j t h => by simp at h) (fun i e j t h => by simp at h)
  · obtain ⟨rfl, h2⟩ := hcap (by omega)
    have hrow := hrows [] sz es rfl
    simp only [List.append_nil] at hrow
    obtain ⟨c, E, k1, k2, k3⟩ := hrow.2 (show (r.hd p).cap ≠ 0 by omega)
    have hXp : ¬ X' (r.hd p).b := by
      have := hXr [] sz es rfl
      rw [List.append_nil] at this
      exact this (by omega)
    have hget : ∀ (i : Nat) (e : List T), (borEs ((es.drop off).take len))[i]? = some e → ∃ e0, es[off + i]? = some e0 ∧ e = borE e0 := by
      intro i e hi
      have hil := (List.getElem?_eq_some_iff.1 hi).1
      obtain ⟨e0, h3, rfl⟩ := borEs_get hi
      rw [List.getElem?_take_of_lt (by omega), List.getElem?_drop] at h3
      exact ⟨e0, h3, rfl⟩
    have := Bor.mk (w := w) (X := X') (some ⟨(r.hd p).b, (r.hd p).o + off * sz, none⟩) cap sz (borEs ((es.drop off).take len)) (r.hd p).b ((r.hd p).o + off * sz) (fun i j => c.getD ((r.hd p).o + ((off + i) * sz + j)) undef) (by omega) (fun i e hi => ?_) (.inr ⟨rfl, hXp⟩) (fun i e j t hi hj => ?_) (fun i e j t hi hj => ?_)
    · rw [hlen] at this; exact this
    · obtain ⟨e0, h3, rfl⟩ := hget i e hi
      rw [borE_length]
      exact (k3 _ e0 h3).1
    · obtain ⟨e0, h3, rfl⟩ := hget i e hi
      obtain ⟨t0, h4, rfl⟩ := borE_get hj
      obtain ⟨u, hu, _⟩ := (k3 _ e0 h3).2 j t0 h4
      simp only [World.cell?, k1]
      rw [show (r.hd p).o + off * sz + (i * sz + j) = (r.hd p).o + ((off + i) * sz + j) by have := Nat.add_mul off i sz; omega, Array.getD_eq_getD_getElem?, hu]
      rfl
    · obtain ⟨e0, h3, rfl⟩ := hget i e hi
      obtain ⟨t0, h4, rfl⟩ := borE_get hj
      obtain ⟨u, hu, hok⟩ := (k3 _ e0 h3).2 j t0 h4
      rw [Array.getD_eq_getD_getElem?, hu]
      simp only [Option.getD_some]
      have hil := (List.getElem?_eq_some_iff.1 hi).1
      have h3' : ((es.drop off).take len)[i]? = some e0 := by rw [List.getElem?_take_of_lt (by omega), List.getElem?_drop]; exact h3
      have hszt : szT t0 = true := szE_at (szEs_at hszE h3') h4
      cases t0 with
      | v x => cases hok; exact .v _
      | d => exact .d _
      | s own z zs =>
        simp only [borT]
        refine .s _ _ _ ?_
        cases own with
        | false =>
          simp only [szT, Bool.and_eq_true, bne_iff_ne] at hszt
          have hb : Bor w X' u z zs := Bor.keepX hkp hX' hok hszt.1 hszt.2
          have hbb : ∀ (y : Value) (z : Nat) (zs : List (List T)), Bor w X' y z zs → Bor w X' y z (borEs zs) := by
            intro y z zs h
            refine Bor.rec (motive_1 := fun y sz es _ => Bor w X' y sz (borEs es)) (motive_2 := fun t y _ => BorT w X' (borT t) y) ?_ ?_ ?_ ?_ h
            · intro a cap sz es b o g hl hsz ha hc ht ih
              have := Bor.mk (w := w) (X := X') a cap sz (borEs es) b o g (by rw [borEs_length]; exact hl) (fun i e hi => by obtain ⟨e0, h5, rfl⟩ := borEs_get hi; rw [borE_length]; exact hsz i e0 h5) (ha.imp (fun h => by rw [h]; rfl) id)
                (fun i e j t hi hj => by obtain ⟨e0, h5, rfl⟩ := borEs_get hi; obtain ⟨t0, h6, rfl⟩ := borE_get hj; exact hc i e0 j t0 h5 h6)
                (fun i e j t hi hj => by obtain ⟨e0, h5, rfl⟩ := borEs_get hi; obtain ⟨t0, h6, rfl⟩ := borE_get hj; exact ih i e0 j t0 h5 h6)
              rw [borEs_length] at this
              exact this
            · exact fun x => .v x
            · exact fun x => .d x
            · exact fun y sz es _ ih => .s y sz _ ih
          exact hbb _ _ _ hb
        | true =>
          obtain ⟨a1, rfl, ha1⟩ := hok
          have hcell : cellAt es (off + i) j = some (.s true z zs) := by simp [cellAt, h3, h4]
          have hsz : SizeOf.sizeOf zs ≤ N := by
            have h7 : SizeOf.sizeOf (T.s true z zs) < SizeOf.sizeOf e0 := by
              have := List.sizeOf_lt_of_mem (List.mem_of_getElem? h4)
              omega
            have h8 : SizeOf.sizeOf e0 < SizeOf.sizeOf es := List.sizeOf_lt_of_mem (List.mem_of_getElem? h3)
            simp at h7
            omega
          simp only [szT, Bool.and_eq_true, bne_iff_ne] at hszt
          have hsub := ih z zs (p ++ [(off + i, j)]) hsz hszt.1 (fun q sz' es' hq => by
            have := hXr ((off + i, j) :: q) sz' es' (by simp only [rowAt, hcell]; exact hq)
            simpa using this) (fun q sz' es' hq => by
            have := hrows ((off + i, j) :: q) sz' es' (by simp only [rowAt, hcell]; exact hq)
            simpa using this) 0 zs.length (r.hd (p ++ [(off + i, j)])).cap a1 (by simpa using hszt.2) (by simp) (by
            have := (hrows [(off + i, j)] z zs (by simp only [rowAt, hcell])).1
            simpa using this) (fun hc => ⟨by simpa using ha1 hc, by simp⟩)
          simpa using hsub
end Go.Abs

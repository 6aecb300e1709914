/- A small abstract machine over the kit's wp, part of it: states of slots and owned rows, and what each operation does to them. No condition. -/
import Derived.Test.YtolmelplkiefjaaMachOne
set_option linter.unusedVariables false
set_option linter.unusedSimpArgs false
set_option linter.constructorNameAsVariable false
namespace Go.Abs
open Go

theorem addr_add (b o n : Nat) : (⟨b, o, none⟩ : Addr).add n = ⟨b, o + n, none⟩ := by
  unfold Addr.add; split <;> simp_all

theorem HeapOf_some {st : St} {Hd : K → Path → Hdr} {k : K} {e : Ent} (h : st (.k k) = .e e) : HeapOf st Hd (.inl k) = some ⟨e.sz, e.es, Hd k⟩ := by
  simp [HeapOf, h]

theorem row_of {cx : Cx} {st : St} {Hd : K → Path → Hdr} {w : World} (hk : HeapOK cx (HeapOf st Hd) w) {k : K} {e : Ent} {p : Path} {sz : Nat} {es : List (List T)} (he : st (.k k) = .e e) (hr : rowAt e.sz e.es p = some (sz, es)) :
    RowOK cx w (fun i j => Hd k (p ++ [(i, j)])) sz es (Hd k p) := hk.rows _ _ p sz es (HeapOf_some he) hr

theorem row_cell {cx : Cx} {w : World} {ch : Nat → Nat → Hdr} {sz : Nat} {es : List (List T)} {h : Hdr} (hrow : RowOK cx w ch sz es h) {i j : Nat} {el : List T} {t : T} (hi : es[i]? = some el) (hj : el[j]? = some t) :
    el.length = sz ∧ ∃ y, w.cell? ⟨h.b, h.o + (i * sz + j), none⟩ = some y ∧ TOK cx (ch i j) t y := by
  obtain ⟨c, E, h1, h2, h3⟩ := hrow.2 (cap_ne hrow hi)
  obtain ⟨h4, h5⟩ := h3 i el hi
  obtain ⟨y, hy, hok⟩ := h5 j t hj
  exact ⟨h4, y, by simpa [World.cell?, h1] using hy, hok⟩

/-- a cell of an owned row, as it is read into a slot -/
def toC1 (k : K) (ver : Nat) (p : Path) (i j : Nat) : T → C
  | .v x => .v x
  | .s false sz es => .b sz es
  | .s true _ es => .r k ver (p ++ [(i, j)]) 0 es.length
  | .d => .u

theorem toC_get (k : K) (ver : Nat) (p : Path) (i : Nat) : ∀ (ts : List T) (j m : Nat), (toC k ver p i j ts)[m]? = (ts[m]?).map (toC1 k ver p i (j + m))
  | [], j, m => by simp [toC]
  | t :: ts, j, 0 => by cases t with
    | v x => simp [toC, toC1]
    | d => simp [toC, toC1]
    | s o sz es => cases o <;> simp [toC, toC1]
  | t :: ts, j, m + 1 => by
    have := toC_get k ver p i ts (j + 1) m
    have e : j + 1 + m = j + (m + 1) := by omega
    cases t with
    | v x => simp [toC, this, e]
    | d => simp [toC, this, e]
    | s o sz es => cases o <;> simp [toC, this, e]

theorem toC_length (k : K) (ver : Nat) (p : Path) (i : Nat) : ∀ (ts : List T) (j : Nat), (toC k ver p i j ts).length = ts.length
  | [], j => rfl
  | t :: ts, j => by
    have := toC_length k ver p i ts (j + 1)
    cases t with
    | v x => simp [toC, this]
    | d => simp [toC, this]
    | s o sz es => cases o <;> simp [toC, this]

theorem toC1_ok {cx : Cx} {st : St} {Hd : K → Path → Hdr} {w : World} (hk : HeapOK cx (HeapOf st Hd) w) {k : K} {e : Ent} {p : Path} {sz : Nat} {es : List (List T)} (he : st (.k k) = .e e) (hr : rowAt e.sz e.es p = some (sz, es))
    {i j : Nat} {el : List T} {t : T} {y : Value} (hi : es[i]? = some el) (hj : el[j]? = some t) (hok : TOK cx (Hd k (p ++ [(i, j)])) t y) : COK cx st Hd (toC1 k e.ver p i j t) y := by
  cases t with
  | v x => obtain rfl : y = x := hok; exact .v _
  | d => exact .u _
  | s o sz' es' =>
    cases o with
    | false => exact .b _ _ _ hok
    | true =>
      obtain ⟨a, rfl, ha⟩ := hok
      have hr' : rowAt e.sz e.es (p ++ [(i, j)]) = some (sz', es') := by
        rw [rowAt_append, hr]; simp [rowAt, cellAt, hi, hj]
      have hrow := row_of hk he hr'
      refine .r _ _ _ _ _ _ _ ⟨by rw [he]; simp, fun e' h => ?_⟩ hrow.1 (fun sz1 es1 h1 hh => ?_)
      · rw [he] at h; obtain rfl := X.e.inj h; exact Nat.le_refl _
      · obtain ⟨e', h2, _, h3, h4⟩ := hh
        rw [he] at h2
        obtain rfl := X.e.inj h2
        rw [hr'] at h3
        obtain ⟨rfl, rfl⟩ := Prod.mk.inj (Option.some.inj h3)
        subst h4
        exact ⟨by omega, fun hc => ⟨by simpa using ha hc, by omega⟩⟩

def toB1 : T → C
  | .v x => .v x
  | .s false sz es => .b sz es
  | _ => .u

theorem toB_get : ∀ (ts : List T) (m : Nat), (toB ts)[m]? = (ts[m]?).map toB1
  | [], m => by simp [toB]
  | t :: ts, 0 => by cases t with
    | v x => simp [toB, toB1]
    | d => simp [toB, toB1]
    | s o sz es => cases o <;> simp [toB, toB1]
  | t :: ts, m + 1 => by
    have := toB_get ts m
    cases t with
    | v x => simp [toB, this]
    | d => simp [toB, this]
    | s o sz es => cases o <;> simp [toB, this]

theorem toB_length : ∀ (ts : List T), (toB ts).length = ts.length
  | [] => rfl
  | t :: ts => by
    have := toB_length ts
    cases t with
    | v x => simp [toB, this]
    | d => simp [toB, this]
    | s o sz es => cases o <;> simp [toB, this]

theorem toB1_ok {cx : Cx} {st : St} {Hd : K → Path → Hdr} {t : T} {y : Value} (h : BorT cx.w0 cx.X t y) : COK cx st Hd (toB1 t) y := by
  cases h with
  | v => exact .v _
  | d => exact .u _
  | s y sz es h => exact .b _ _ _ h

/-- borrowed memory reads as it did -/
theorem Keep.cell {cx : Cx} {w : World} (h : Keep cx w) {b o : Nat} {y : Value} (hX : ¬ cx.X b) (hc : cx.w0.cell? ⟨b, o, none⟩ = some y) : w.cell? ⟨b, o, none⟩ = some y := by
  have hlt : b < cx.w0.heap.size := by
    unfold World.cell? at hc
    by_cases hb : b < cx.w0.heap.size
    · exact hb
    · simp [Array.getElem?_eq_none (Nat.le_of_not_lt hb)] at hc
  unfold World.cell? at hc ⊢
  simp only [h.block b hlt hX]
  exact hc

theorem mutual_getR {P : Program} {st : St} {k : K} {ver : Nat} {p : Path} {f : Ent → Nat → List (List T) → M} {Kc : Ws → Prop} (hm : (getR [] k ver p f).wp P st Kc) :
    ∃ e sz es, st (.k k) = .e e ∧ (p = [] ∨ e.ver = ver) ∧ rowAt e.sz e.es p = some (sz, es) ∧ (f e sz es).wp P st Kc := by
  simp only [getR, getE, ovl, M.wp] at hm
  cases hs : st (.k k) with
  | v v => rw [hs] at hm; exact hm.elim
  | gone => rw [hs] at hm; exact hm.elim
  | none => rw [hs] at hm; exact hm.elim
  | e e =>
    rw [hs] at hm
    simp only [M.wp] at hm
    obtain ⟨h1, hm⟩ := hm
    cases hr : rowAt e.sz e.es p with
    | none => rw [hr] at hm; exact hm.elim
    | some x => obtain ⟨sz, es⟩ := x; rw [hr] at hm; exact ⟨e, sz, es, rfl, h1, hr, hm⟩

/-! the step of one operation -/
section
variable {P : Program} {cx : Cx} {n : Nat} {st : St} {Hd : K → Path → Hdr} {a : Act} {w : World} {o : Oper} {Kc : Ws → Prop} {KC : Act → World → Prop} {Q : Exit → Act → World → Prop}

theorem put_wp (h : Rel cx n st Hd a w) (hd : ∀ t, o.dst = some t → t < n) {v : V} {y : Value} (hrun : (execOp a.eval o).run P w = .ok (.value y) w) (hv : VOK cx st Hd v y) (hm : (put o.dst v []).wp P st Kc)
    (hK : ∀ ws Hd' a' w', Kc ws → Rel cx n (app ws st) Hd' a' w' → KC a' w') : o.wp P a w KC Q := by
  unfold Oper.wp
  rw [hrun]
  show KC (a.put o.dst y) w
  have hr := h.put hd hv
  refine hK _ _ _ _ ?_ hr
  revert hm
  generalize o.dst = d
  cases d <;> exact id

theorem size_run {P : Program} {t : TypeId} {n : Nat} (h : szOf P t = some n) (w : World) : (sizeOf t).run P w = .ok n w := by
  unfold szOf at h
  cases hi : P.info? t with
  | none => simp [hi] at h
  | some i => simp [hi] at h; simp [sizeOf, typeInfo, hi, h]

theorem agg_run {P : Program} {t : TypeId} {g : Bool} (h : aggOf P t = some g) (w : World) : (isAgg t).run P w = .ok g w := by
  unfold aggOf at h
  cases hi : P.underlying t with
  | none => simp [hi] at h
  | some d =>
    simp [hi] at h
    subst h
    cases d <;> simp [isAgg, run_underlying hi]

theorem elem_run {P : Program} {t e : TypeId} (h : elemOf P t = some e) : P.underlying t = some (.slice e) := by
  unfold elemOf at h
  split at h
  · rename_i e' he; rw [he]; simpa using h
  · simp at h

/-- a whole value out of its cells -/
theorem whole_ok {g : Bool} {cs : List C} {k : V → M} (hm : (whole g cs k).wp P st Kc) (hlen : cs.length ≠ 0) {ys : Array Value} (hl : ys.size = cs.length) (h : ∀ (i : Nat) (c : C) (y : Value), cs[i]? = some c → ys[i]? = some y → COK cx st Hd c y) :
    ∃ v, (k v).wp P st Kc ∧ (g = true → VOK cx st Hd v (.agg ys)) ∧ (g = false → ∃ y, ys = #[y] ∧ VOK cx st Hd v y) := by
  cases g with
  | true => exact ⟨_, hm, fun _ => .a _ _ hl h, fun h => by simp at h⟩
  | false =>
    match cs, hm with
    | [c], hm =>
      refine ⟨_, hm, fun h => by simp at h, fun _ => ?_⟩
      have h1 : ys.size = 1 := by simpa using hl
      refine ⟨ys[0], ?_, .c _ _ (h 0 c _ rfl (by simp))⟩
      apply Array.ext
      · simp [h1]
      · intro i h2 h3
        have : i = 0 := by omega
        subst this; simp
    | [], hm => simp at hlen
    | _ :: _ :: _, hm => exact hm.elim

theorem load_run {P : Program} {t : TypeId} {n : Nat} {g : Bool} (hs : szOf P t = some n) (hg : aggOf P t = some g) {a : Addr} {ys : Array Value} {w : World} (hl : ys.size = n) (hn : g = false → n = 1)
    (hc : ∀ j y, ys[j]? = some y → w.cell? (a.add j) = some y) : (Instr.loadAt t (.pointer (some a))).run P w = .ok (if g then .agg ys else ys.getD 0 undef) w := by
  have hlc := run_loadCells_list (P := P) w a ys.toList (fun j v h => hc j v (by simpa using h))
  simp only [Array.length_toList, Array.toArray_toList] at hlc
  rw [hl] at hlc
  cases g with
  | true => simp [Instr.loadAt, Instr.sureAddr, loadVar, agg_run hg, size_run hs, hlc]
  | false =>
    have h1 := hn rfl
    have h0 : w.cell? (a.add 0) = some (ys.getD 0 undef) := hc 0 _ (by simp [Array.getD_eq_getD_getElem?, hl, h1])
    have ha : a.add 0 = a := rfl
    rw [ha] at h0
    simp [Instr.loadAt, Instr.sureAddr, loadVar, agg_run hg, load, Sem.run, h0]

end
end Go.Abs

namespace Go.Abs
open Go

section
variable {P : Program} {md : Nat → Nat → Bool} {cx : Cx} {n : Nat} {st : St} {Hd : K → Path → Hdr} {a : Act} {w : World} {o : Oper} {Kc : Ws → Prop} {KC : Act → World → Prop} {Q : Exit → Act → World → Prop}

theorem array_of {n : Nat} {R : Nat → Value → Prop} (h : ∀ j, j < n → ∃ y, R j y) : ∃ ys : Array Value, ys.size = n ∧ ∀ j y, ys[j]? = some y → R j y := by
  induction n with
  | zero => exact ⟨#[], rfl, fun j y h => by simp at h⟩
  | succ n ih =>
    obtain ⟨ys, h1, h2⟩ := ih (fun j hj => h j (by omega))
    obtain ⟨y, hy⟩ := h n (by omega)
    refine ⟨ys.push y, by simp [h1], fun j z hz => ?_⟩
    rw [Array.getElem?_push] at hz
    split at hz
    · obtain rfl := Option.some.inj hz; rw [show j = n by omega]; exact hy
    · exact h2 j z hz

theorem Bor.inv {w : World} {X : Nat → Prop} {y : Value} {sz : Nat} {es : List (List T)} (h : Bor w X y sz es) : ∃ (a : Option Addr) (cap b o : Nat) (g : Nat → Nat → Value), y = .slice a es.length cap ∧ es.length ≤ cap ∧ (∀ (i : Nat) (e : List T), es[i]? = some e → e.length = sz) ∧
    (es = [] ∨ (a = some ⟨b, o, none⟩ ∧ ¬ X b)) ∧ (∀ (i : Nat) (e : List T) (j : Nat) (t : T), es[i]? = some e → e[j]? = some t → w.cell? ⟨b, o + (i * sz + j), none⟩ = some (g i j)) ∧
    (∀ (i : Nat) (e : List T) (j : Nat) (t : T), es[i]? = some e → e[j]? = some t → BorT w X t (g i j)) := by
  cases h with
  | mk a cap sz es b o g hl hsz ha hc ht => exact ⟨a, cap, b, o, g, rfl, hl, hsz, ha, hc, ht⟩

/-- a borrowed row whose address is known -/
theorem Bor.at {w : World} {X : Nat → Prop} {b o len cap sz : Nat} {es : List (List T)} (h : Bor w X (.slice (some ⟨b, o, none⟩) len cap) sz es) (hne : es ≠ []) : ¬ X b ∧ (∀ (i : Nat) (e : List T), es[i]? = some e → e.length = sz) ∧
    ∀ (i : Nat) (e : List T) (j : Nat) (t : T), es[i]? = some e → e[j]? = some t → ∃ y, w.cell? ⟨b, o + (i * sz + j), none⟩ = some y ∧ BorT w X t y := by
  obtain ⟨a', cap', b', o', g, hy, hl, hsz, ha, hc, ht⟩ := h.inv
  rcases ha with ha | ⟨rfl, hX⟩
  · exact absurd ha hne
  · injection hy with h1 h2 h3
    injection h1 with h1
    injection h1 with h4 h5
    subst h4; subst h5
    exact ⟨hX, hsz, fun i e j t he hj => ⟨g i j, hc i e j t he hj, ht i e j t he hj⟩⟩

theorem exec_load {t : TypeId} {x : Operand} {y : Value} (ho : o.op = .load t x) (hr : (Instr.loadAt t (a.eval x)).run P w = .ok y w) : (execOp a.eval o).run P w = .ok (.value y) w := by
  simp [execOp, ho, hr]

theorem op_load (h : Rel cx n st Hd a w) (hd : ∀ t, o.dst = some t → t < n) {t : TypeId} {x : Operand} (ho : o.op = .load t x) (hm : (opM P md o).wp P st Kc)
    (hK : ∀ ws Hd' a' w', Kc ws → Rel cx n (app ws st) Hd' a' w' → KC a' w') : o.wp P a w KC Q := by
  simp only [opM, ho] at hm
  cases hs : szOf P t with
  | none => simp [hs, M.wp] at hm
  | some m =>
  cases hg : aggOf P t with
  | none => simp [hs, hg, M.wp] at hm
  | some g =>
  simp only [hs, hg] at hm
  obtain ⟨v, hv, hm⟩ := getO_ok h hm
  generalize hev : a.eval x = y0 at hv
  cases hv with
  | c c y hc => exact hm.elim
  | a cs ys h1 h2 => exact hm.elim
  | t vs ys h1 h2 => exact hm.elim
  | f fn caps ys h1 h2 => exact hm.elim
  | u => exact hm.elim
  | p k ver p i off ad hk hv =>
    obtain ⟨e, sz, es, he, hver, hr, hm⟩ := mutual_getR hm
    cases hi : es[i]? with
    | none => rw [hi] at hm; exact hm.elim
    | some el =>
      rw [hi] at hm
      obtain ⟨⟨hm0, hle⟩, hm⟩ := hm
      have hrow := row_of h.heap he hr
      have hil := (List.getElem?_eq_some_iff.1 hi).1
      have had := hv sz es _ ⟨e, he, hver, hr, rfl⟩ hil
      obtain ⟨ys, hys, hR⟩ := array_of (n := m) (R := fun j y => w.cell? (ad.add j) = some y ∧ ∀ t, el[off + j]? = some t → COK cx st Hd (toC1 k e.ver p i (off + j) t) y) (fun j hj => by
        have hlt : off + j < el.length := by omega
        obtain ⟨h1, y, hy, hok⟩ := row_cell hrow hi (List.getElem?_eq_getElem hlt)
        refine ⟨y, ?_, fun t ht => ?_⟩
        · rw [had, addr_add, Nat.add_assoc, Nat.add_assoc]; exact hy
        · rw [List.getElem?_eq_getElem hlt] at ht
          obtain rfl := Option.some.inj ht
          exact toC1_ok h.heap he hr hi (List.getElem?_eq_getElem hlt) hok)
      have hlen : (toC k e.ver p i off ((el.drop off).take m)).length = m := by rw [toC_length]; simp; omega
      obtain ⟨v, hm, hv1, hv2⟩ := whole_ok hm (by omega) (ys := ys) (by omega) (fun j c y hc hy => by
        rw [toC_get] at hc
        cases hq : ((el.drop off).take m)[j]? with
        | none => simp [hq] at hc
        | some t =>
          rw [hq] at hc
          obtain rfl := Option.some.inj hc
          have hj : j < m := by have := (List.getElem?_eq_some_iff.1 hq).1; simp at this; omega
          rw [List.getElem?_take_of_lt hj, List.getElem?_drop] at hq
          exact (hR j y hy).2 t hq)
      have hrun : (Instr.loadAt t (a.eval x)).run P w = .ok (if g then .agg ys else ys.getD 0 undef) w := by
        rw [hev]
        refine load_run hs hg hys (fun hg' => ?_) (fun j y hy => (hR j y hy).1)
        obtain ⟨y, hy, _⟩ := hv2 hg'
        rw [← hys, hy]; rfl
      refine put_wp h hd (exec_load ho hrun) ?_ hm hK
      cases g with
      | true => exact hv1 rfl
      | false => obtain ⟨y, hy, hvy⟩ := hv2 rfl; rw [hy]; exact hvy
  | q sz es i off b oo cap hb hi =>
    have hne : es ≠ [] := by intro e; subst e; simp at hi
    obtain ⟨hX, hsz, hcells⟩ := hb.at hne
    have hi' := List.getElem?_eq_getElem hi
    simp only [hi'] at hm
    obtain ⟨⟨hm0, hle⟩, hm⟩ := hm
    obtain ⟨ys, hys, hR⟩ := array_of (n := m) (R := fun j y => w.cell? (Addr.add ⟨b, oo + (i * sz + off), none⟩ j) = some y ∧ ∀ t, es[i][off + j]? = some t → COK cx st Hd (toB1 t) y) (fun j hj => by
      have hlt : off + j < es[i].length := by omega
      obtain ⟨y, hy, hok⟩ := hcells i es[i] (off + j) _ hi' (List.getElem?_eq_getElem hlt)
      refine ⟨y, ?_, fun t ht => ?_⟩
      · rw [addr_add, Nat.add_assoc, Nat.add_assoc]; exact h.keep.cell hX hy
      · rw [List.getElem?_eq_getElem hlt] at ht
        obtain rfl := Option.some.inj ht
        exact toB1_ok hok)
    have hlen : (toB ((es[i].drop off).take m)).length = m := by rw [toB_length]; simp; omega
    obtain ⟨v, hm, hv1, hv2⟩ := whole_ok hm (by omega) (ys := ys) (by omega) (fun j c y hc hy => by
      rw [toB_get] at hc
      cases hq : ((es[i].drop off).take m)[j]? with
      | none => simp [hq] at hc
      | some t =>
        rw [hq] at hc
        obtain rfl := Option.some.inj hc
        have hj : j < m := by have := (List.getElem?_eq_some_iff.1 hq).1; simp at this; omega
        rw [List.getElem?_take_of_lt hj, List.getElem?_drop] at hq
        exact (hR j y hy).2 t hq)
    have hrun : (Instr.loadAt t (a.eval x)).run P w = .ok (if g then .agg ys else ys.getD 0 undef) w := by
      rw [hev]
      refine load_run hs hg hys (fun hg' => ?_) (fun j y hy => (hR j y hy).1)
      obtain ⟨y, hy, _⟩ := hv2 hg'
      rw [← hys, hy]; rfl
    refine put_wp h hd (exec_load ho hrun) ?_ hm hK
    cases g with
    | true => exact hv1 rfl
    | false => obtain ⟨y, hy, hvy⟩ := hv2 rfl; rw [hy]; exact hvy

theorem op_move (h : Rel cx n st Hd a w) (hd : ∀ t, o.dst = some t → t < n) {x : Operand} (ho : o.op = .move x ∨ o.op = .assign x) (hm : (opM P md o).wp P st Kc)
    (hK : ∀ ws Hd' a' w', Kc ws → Rel cx n (app ws st) Hd' a' w' → KC a' w') : o.wp P a w KC Q := by
  have hm' : (getO x fun v => put o.dst v []).wp P st Kc := by
    rcases ho with ho | ho <;> simpa [opM, ho] using hm
  obtain ⟨v, hv, hm⟩ := getO_ok h hm'
  refine put_wp h hd ?_ hv hm hK
  rcases ho with ho | ho <;> simp [execOp, ho]

theorem boolV_ok {v : V} {y : Value} {b : Bool} (hv : VOK cx st Hd v y) (hb : boolV v = some b) : y = .bool b := by
  unfold boolV at hb
  split at hb
  · obtain rfl := Option.some.inj hb
    cases hv with | c _ _ h => cases h with | v => rfl
  · simp at hb

theorem intV_ok {v : V} {y : Value} {b : Int} (hv : VOK cx st Hd v y) (hb : intV v = some b) : y = .int .i64 b := by
  unfold intV at hb
  split at hb
  · obtain rfl := Option.some.inj hb
    cases hv with | c _ _ h => cases h with | v => rfl
  · simp at hb

theorem op_pick (h : Rel cx n st Hd a w) (hd : ∀ t, o.dst = some t → t < n) {x y z : Operand} (ho : o.op = .pick x y z) (hm : (opM P md o).wp P st Kc)
    (hK : ∀ ws Hd' a' w', Kc ws → Rel cx n (app ws st) Hd' a' w' → KC a' w') : o.wp P a w KC Q := by
  simp only [opM, ho] at hm
  obtain ⟨v, hv, hm⟩ := getO_ok h hm
  cases hb : boolV v with
  | none => simp [hb, M.wp] at hm
  | some b =>
    have hx := boolV_ok hv hb
    simp only [hb] at hm
    cases b with
    | true =>
      simp only [if_true] at hm
      obtain ⟨v, hv, hm⟩ := getO_ok h hm
      exact put_wp h hd (by simp [execOp, ho, hx, asBool]) hv hm hK
    | false =>
      simp only [Bool.false_eq_true, if_false] at hm
      obtain ⟨v, hv, hm⟩ := getO_ok h hm
      exact put_wp h hd (by simp [execOp, ho, hx, asBool]) hv hm hK

theorem op_nilCheck (h : Rel cx n st Hd a w) (hd : ∀ t, o.dst = some t → t < n) {x : Operand} (ho : o.op = .nilCheck x) (hm : (opM P md o).wp P st Kc)
    (hK : ∀ ws Hd' a' w', Kc ws → Rel cx n (app ws st) Hd' a' w' → KC a' w') : o.wp P a w KC Q := by
  simp only [opM, ho] at hm
  obtain ⟨v, hv, hm⟩ := getO_ok h hm
  generalize hev : a.eval x = y0 at hv
  cases hv with
  | p k ver p i off ad hk hv' => exact put_wp h hd (by simp [execOp, ho, hev]) (.p _ _ _ _ _ _ hk hv') hm hK
  | q sz es i off b oo cap hb hi => exact put_wp h hd (by simp [execOp, ho, hev]) (.q _ _ _ _ _ _ _ hb hi) hm hK
  | c c y hc => exact hm.elim
  | a cs ys h1 h2 => exact hm.elim
  | t vs ys h1 h2 => exact hm.elim
  | f fn caps ys h1 h2 => exact hm.elim
  | u => exact hm.elim

theorem op_unOp (h : Rel cx n st Hd a w) (hd : ∀ t, o.dst = some t → t < n) {u : UnOp} {t : TypeId} {x : Operand} (ho : o.op = .unOp u t x) (hm : (opM P md o).wp P st Kc)
    (hK : ∀ ws Hd' a' w', Kc ws → Rel cx n (app ws st) Hd' a' w' → KC a' w') : o.wp P a w KC Q := by
  simp only [opM, ho] at hm
  obtain ⟨v, hv, hm⟩ := getO_ok h hm
  generalize hev : a.eval x = y0 at hv
  split at hm
  · cases hv with | c _ _ hc => cases hc with | v => exact put_wp h hd (by simp [execOp, ho, hev, Op.unary]) (.c _ _ (.v _)) hm hK
  · cases hv with | c _ _ hc => cases hc with | v => exact put_wp h hd (by simp [execOp, ho, hev, Op.unary, Op.intArith]) (.c _ _ (.v _)) hm hK
  · exact hm.elim

end
end Go.Abs

namespace Go.Abs
open Go

section
variable {P : Program} {md : Nat → Nat → Bool} {cx : Cx} {n : Nat} {st : St} {Hd : K → Path → Hdr} {a : Act} {w : World} {o : Oper} {Kc : Ws → Prop} {KC : Act → World → Prop} {Q : Exit → Act → World → Prop}

theorem fieldOf_spec {s : TypeId} {f off m : Nat} {g : Bool} (h : fieldOf P s f = some (off, m, g)) :
    ∃ fs x, P.underlying s = some (.struct fs) ∧ fs[f]? = some x ∧ x.offset = off ∧ szOf P x.type = some m ∧ aggOf P x.type = some g ∧ m ≠ 0 := by
  unfold fieldOf at h
  split at h
  · rename_i fs hu
    split at h
    · rename_i x hx
      split at h
      · rename_i n' g' h1 h2
        split at h
        · simp at h
        · rename_i hne
          simp only [Option.some.injEq, Prod.mk.injEq] at h
          obtain ⟨rfl, rfl, rfl⟩ := h
          exact ⟨fs, x, hu, hx, rfl, h1, h2, hne⟩
      · simp at h
    · simp at h
  · simp at h

theorem fieldAt_run {s : TypeId} {f off m : Nat} {g : Bool} (h : fieldOf P s f = some (off, m, g)) (ad : Addr) (w : World) : (Instr.fieldAt s (.pointer (some ad)) f).run P w = .ok (.pointer (some (ad.add off))) w := by
  obtain ⟨fs, x, h1, h2, rfl, h4, h5, h6⟩ := fieldOf_spec h
  simp [Instr.fieldAt, run_underlying h1, h2, Instr.sureAddr, fieldPlace, size_run h4, h6]

theorem ptrTo_ok {v : V} {y : Value} {off : Nat} {k : V → M} (hv : VOK cx st Hd v y) (hm : (ptrTo v off k).wp P st Kc) : ∃ ad v', y = .pointer (some ad) ∧ VOK cx st Hd v' (.pointer (some (ad.add off))) ∧ (k v').wp P st Kc := by
  cases hv with
  | p r ver p i o ad hk hv' =>
    refine ⟨ad, _, rfl, .p _ _ _ _ _ _ hk (fun sz es h hh hi => ?_), hm⟩
    rw [hv' sz es h hh hi, addr_add, Nat.add_assoc, Nat.add_assoc]
  | q sz es i o b oo cap hb hi =>
    refine ⟨_, _, rfl, ?_, hm⟩
    rw [addr_add, Nat.add_assoc, Nat.add_assoc]
    exact .q _ _ _ _ _ _ _ hb hi
  | c c y hc => exact hm.elim
  | a cs ys h1 h2 => exact hm.elim
  | t vs ys h1 h2 => exact hm.elim
  | f fn caps ys h1 h2 => exact hm.elim
  | u => exact hm.elim

theorem op_fieldAddr (h : Rel cx n st Hd a w) (hd : ∀ t, o.dst = some t → t < n) {s : TypeId} {x : Operand} {f : Nat} (ho : o.op = .fieldAddr s x f) (hm : (opM P md o).wp P st Kc)
    (hK : ∀ ws Hd' a' w', Kc ws → Rel cx n (app ws st) Hd' a' w' → KC a' w') : o.wp P a w KC Q := by
  simp only [opM, ho] at hm
  cases hf : fieldOf P s f with
  | none => simp [hf, M.wp] at hm
  | some x3 =>
    obtain ⟨off, m, g⟩ := x3
    simp only [hf] at hm
    obtain ⟨v, hv, hm⟩ := getO_ok h hm
    obtain ⟨ad, v', hy, hv', hm⟩ := ptrTo_ok hv hm
    exact put_wp h hd (by simp [execOp, ho, hy, fieldAt_run hf]) hv' hm hK

theorem op_field (h : Rel cx n st Hd a w) (hd : ∀ t, o.dst = some t → t < n) {s : TypeId} {x : Operand} {f : Nat} (ho : o.op = .field s x f) (hm : (opM P md o).wp P st Kc)
    (hK : ∀ ws Hd' a' w', Kc ws → Rel cx n (app ws st) Hd' a' w' → KC a' w') : o.wp P a w KC Q := by
  simp only [opM, ho] at hm
  cases hf : fieldOf P s f with
  | none => simp [hf, M.wp] at hm
  | some x3 =>
    obtain ⟨off, m, g⟩ := x3
    simp only [hf] at hm
    obtain ⟨v, hv, hm⟩ := getO_ok h hm
    generalize hev : a.eval x = y0 at hv
    cases hv with
    | p k ver p i off ad hk hv' => exact hm.elim
    | q sz es i off b oo cap hb hi => exact hm.elim
    | c c y hc => exact hm.elim
    | t vs ys h1 h2 => exact hm.elim
    | f fn caps ys h1 h2 => exact hm.elim
    | u => exact hm.elim
    | a cs ys h1 h2 =>
      obtain ⟨hle, hm1⟩ := hm
      obtain ⟨fs, xf, k1, k2, rfl, k4, k5, k6⟩ := fieldOf_spec hf
      have hlen : ((cs.drop xf.offset).take m).length = m := by simp; omega
      have hys : (ys.extract xf.offset (xf.offset + m)).size = m := by simp; omega
      obtain ⟨v, hm2, hv1, hv2⟩ := whole_ok hm1 (by omega) (ys := ys.extract xf.offset (xf.offset + m)) (by omega) (fun j c y hc hy => by
        have hj : j < m := by have := (List.getElem?_eq_some_iff.1 hc).1; omega
        rw [List.getElem?_take_of_lt hj, List.getElem?_drop] at hc
        rw [Array.getElem?_extract] at hy
        split at hy
        · exact h2 _ _ _ hc hy
        · simp at hy)
      cases g with
      | true => exact put_wp h hd (by simp [execOp, ho, hev, Instr.field, run_underlying k1, k2, asAgg, part, agg_run k5, size_run k4]) (hv1 rfl) hm2 hK
      | false =>
        obtain ⟨y, hy, hvy⟩ := hv2 rfl
        have h3 : ys[xf.offset]? = some y := by
          have h4 := congrArg (fun z : Array Value => z[0]?) hy
          rw [hy] at hys
          simp only [Array.getElem?_extract] at h4
          have h5 : 0 < m := by omega
          have h6 : xf.offset < cs.length := by omega
          simp [h1, h6] at h4 ⊢
          exact h4.2
        exact put_wp h hd (by simp [execOp, ho, hev, Instr.field, run_underlying k1, k2, asAgg, part, agg_run k5, h3]) hvy hm2 hK

theorem op_extract (h : Rel cx n st Hd a w) (hd : ∀ t, o.dst = some t → t < n) {x : Operand} {i : Nat} (ho : o.op = .extract x i) (hm : (opM P md o).wp P st Kc)
    (hK : ∀ ws Hd' a' w', Kc ws → Rel cx n (app ws st) Hd' a' w' → KC a' w') : o.wp P a w KC Q := by
  simp only [opM, ho] at hm
  obtain ⟨v, hv, hm⟩ := getO_ok h hm
  generalize hev : a.eval x = y0 at hv
  cases hv with
  | p k ver p i off ad hk hv' => exact hm.elim
  | q sz es i off b oo cap hb hi => exact hm.elim
  | c c y hc => exact hm.elim
  | a vs ys h1 h2 => exact hm.elim
  | f fn caps ys h1 h2 => exact hm.elim
  | u => exact hm.elim
  | t vs ys h1 h2 =>
    cases hi : vs[i]? with
    | none => simp [hi, M.wp] at hm
    | some v =>
      simp only [hi] at hm
      have hlt := (List.getElem?_eq_some_iff.1 hi).1
      have hy : ys[i]? = some ys[i] := by simp
      exact put_wp h hd (by simp [execOp, ho, hev, Instr.extract, hy]) (h2 _ _ _ hi hy) hm hK

theorem op_indexAddr (h : Rel cx n st Hd a w) (hd : ∀ t, o.dst = some t → t < n) {t : TypeId} {x ix : Operand} (ho : o.op = .indexAddr t x ix) (hm : (opM P md o).wp P st Kc)
    (hK : ∀ ws Hd' a' w', Kc ws → Rel cx n (app ws st) Hd' a' w' → KC a' w') : o.wp P a w KC Q := by
  simp only [opM, ho] at hm
  cases hel : elemOf P t with
  | none => simp [hel, M.wp] at hm
  | some e =>
  cases hs : szOf P e with
  | none => simp [hel, hs, M.wp] at hm
  | some m =>
  simp only [hel, hs] at hm
  obtain ⟨v, hv, hm1⟩ := getO_ok h hm
  obtain ⟨vi, hvi, hm2⟩ := getO_ok h hm1
  cases hi : intV vi with
  | none => simp [hi, M.wp] at hm2
  | some i =>
  simp only [hi] at hm2
  clear hm hm1
  have hyi := intV_ok hvi hi
  have hu := elem_run hel
  generalize hev : a.eval x = y0 at hv
  cases hv with
  | p k ver p i off ad hk hv' => exact hm2.elim
  | q sz es i off b oo cap hb hi => exact hm2.elim
  | a vs ys h1 h2 => exact hm2.elim
  | t vs ys h1 h2 => exact hm2.elim
  | f fn caps ys h1 h2 => exact hm2.elim
  | u => exact hm2.elim
  | c c y hc =>
    cases hc with
    | v => exact hm2.elim
    | n => exact hm2.elim
    | u => exact hm2.elim
    | b _ sz es hb =>
      obtain ⟨⟨h0, h1, hsz0⟩, hm3⟩ := hm2
      subst hsz0
      obtain ⟨a', cap, b, oo, g, rfl, hl, hsz, ha, hcc, ht⟩ := hb.inv
      have hlt : i.toNat < es.length := by omega
      rcases ha with ha | ⟨rfl, hX⟩
      · subst ha; simp at hlt
      · refine put_wp h hd (y := .pointer (some ⟨b, oo + (i.toNat * sz + 0), none⟩)) ?_ (.q _ _ _ _ _ _ _ hb hlt) hm3 hK
        simp [execOp, ho, hev, hyi, Instr.indexAt, asIntOf, run_underlying hu, h0, h1, size_run hs, addr_add]
    | r k ver p off len a' cap hk hl hv' =>
      obtain ⟨ee, sz, es, he, hver, hr, hm3⟩ := mutual_getR hm2
      obtain ⟨⟨h0, h1, h2, hsz0⟩, hm4⟩ := hm3
      subst hsz0
      obtain ⟨_, h4⟩ := hv' _ _ _ ⟨ee, he, hver, hr, rfl⟩
      obtain ⟨rfl, h5⟩ := h4 (by omega)
      refine put_wp h hd (y := .pointer (some ⟨(Hd k p).b, (Hd k p).o + ((off + i.toNat) * sz + 0), none⟩)) ?_ (.p _ _ _ _ _ _ hk (fun sz1 es1 g hh hi1 => ?_)) hm4 hK
      · simp [execOp, ho, hev, hyi, Instr.indexAt, asIntOf, run_underlying hu, h0, h1, size_run hs, addr_add, Nat.add_mul, Nat.add_assoc]
      · obtain ⟨e2, g1, _, g3, g4⟩ := hh
        rw [he] at g1
        obtain rfl := X.e.inj g1
        rw [hr] at g3
        obtain ⟨rfl, rfl⟩ := Prod.mk.inj (Option.some.inj g3)
        subst g4
        rfl

end
end Go.Abs

namespace Go.Abs
open Go

theorem eqVs_split : ∀ (k1 k2 : List EK) (xs ys : List Value) (r : Bool), eqVs (k1 ++ k2) xs ys = some r → ∃ r1 r2, eqVs k1 (xs.take k1.length) (ys.take k1.length) = some r1 ∧ eqVs k2 (xs.drop k1.length) (ys.drop k1.length) = some r2 ∧ r = (r1 && r2)
  | [], k2, xs, ys, r, h => ⟨true, r, by simp [eqVs], by simpa using h, by simp⟩
  | k :: k1, k2, [], ys, r, h => by simp [eqVs] at h
  | k :: k1, k2, _ :: _, [], r, h => by simp [eqVs] at h
  | k :: k1, k2, x :: xs, y :: ys, r, h => by
    simp only [List.cons_append, eqVs] at h
    cases h1 : eqV k x y with
    | none => simp [h1] at h
    | some a =>
      cases h2 : eqVs (k1 ++ k2) xs ys with
      | none => simp [h1, h2] at h
      | some b =>
        simp only [h1, h2, Option.some.injEq] at h
        obtain ⟨r1, r2, h3, h4, h5⟩ := eqVs_split k1 k2 xs ys b h2
        exact ⟨a && r1, r2, by simp [eqVs, h1, h3], by simpa using h4, by rw [← h, h5, Bool.and_assoc]⟩

theorem eqVs_length : ∀ (ks : List EK) (xs ys : List Value) (r : Bool), eqVs ks xs ys = some r → xs.length = ks.length ∧ ys.length = ks.length
  | [], [], [], r, h => ⟨rfl, rfl⟩
  | [], _ :: _, _, r, h => by simp [eqVs] at h
  | [], [], _ :: _, r, h => by simp [eqVs] at h
  | k :: ks, [], _, r, h => by simp [eqVs] at h
  | k :: ks, _ :: _, [], r, h => by simp [eqVs] at h
  | k :: ks, x :: xs, y :: ys, r, h => by
    simp only [eqVs] at h
    cases h1 : eqV k x y with
    | none => simp [h1] at h
    | some a =>
      cases h2 : eqVs ks xs ys with
      | none => simp [h1, h2] at h
      | some b =>
        have := eqVs_length ks xs ys b h2
        exact ⟨by simp [this.1], by simp [this.2]⟩

def wrapV (g : Bool) (xs : List Value) : Value := if g then .agg xs.toArray else xs.getD 0 undef

theorem flat_size {P : Program} {k : Nat} {t : TypeId} {ks : List EK} (h : flatEq P k t = some ks) : ∃ g, aggOf P t = some g ∧ (g = false → ks.length = 1) := by
  cases k with
  | zero => simp [flatEq] at h
  | succ k =>
    simp only [flatEq] at h
    split at h
    · rename_i h1; exact ⟨false, by simp [aggOf, h1], fun _ => by rw [← Option.some.inj h]; rfl⟩
    · rename_i h1; exact ⟨false, by simp [aggOf, h1], fun _ => by rw [← Option.some.inj h]; rfl⟩
    · rename_i h1; exact ⟨false, by simp [aggOf, h1], fun _ => by rw [← Option.some.inj h]; rfl⟩
    · rename_i h1; exact ⟨true, by simp [aggOf, h1], fun h => by simp at h⟩
    · simp at h

theorem part_run {P : Program} {t : TypeId} {l m : Nat} {g : Bool} (hg : aggOf P t = some g) (hs : szOf P t = some l) (hl : g = false → l = 1) (xs : List Value) (hx : m + l ≤ xs.length) (w : World) :
    (part t xs.toArray m).run P w = .ok (wrapV g ((xs.drop m).take l)) w := by
  cases g with
  | true =>
    simp only [part, Sem.run_bind, agg_run hg, Result.andThen_ok, Sem.run_ite, if_true, size_run hs, Sem.run_pure, wrapV]
    congr 2
    apply Array.ext'
    simp [List.extract_eq_take_drop, Nat.add_sub_cancel_left]
  | false =>
    have h1 := hl rfl
    subst h1
    have h2 : xs[m]? = some xs[m] := List.getElem?_eq_getElem (by omega)
    have h3 : ((xs.drop m).take 1).getD 0 undef = xs[m] := by
      simp [List.getD, List.getElem?_take, h2]
    simp [part, agg_run hg, wrapV, h2, h3]

theorem flat_fields {P : Program} {d k : Nat} (ih : ∀ (t : TypeId) (ks : List EK) (g : Bool) (xs ys : List Value) (r : Bool) (w : World), flatEq P k t = some ks → aggOf P t = some g → eqVs ks xs ys = some r → (Op.equalIn d t (wrapV g xs) (wrapV g ys)).run P w = .ok r w) :
    ∀ (fs : List Field) (m : Nat) (ks : List EK) (xs ys : List Value) (r : Bool) (w : World), flatFs P (flatEq P k) m fs = some ks → m ≤ xs.length → m ≤ ys.length → eqVs ks (xs.drop m) (ys.drop m) = some r →
      (Op.eqFields d xs.toArray ys.toArray fs).run P w = .ok r w
  | [], m, ks, xs, ys, r, w, h, hx, hy, hr => by
    simp only [flatFs, Option.some.injEq] at h
    subst h
    cases h1 : xs.drop m <;> cases h2 : ys.drop m <;> simp [h1, h2, eqVs] at hr
    simp [Op.eqFields, hr]
  | f :: fs, m, ks, xs, ys, r, w, h, hx, hy, hr => by
    simp only [flatFs] at h
    cases h1 : flatEq P k f.type with
    | none => simp [h1] at h
    | some l =>
    cases h2 : szOf P f.type with
    | none => simp [h1, h2] at h
    | some l' =>
    simp only [h1, h2] at h
    split at h
    · rename_i hc
      obtain ⟨hn, ho, hl⟩ := hc
      cases h3 : flatFs P (flatEq P k) (m + l.length) fs with
      | none => simp [h3] at h
      | some ks' =>
        simp only [h3, Option.map_some, Option.some.injEq] at h
        subst h
        obtain ⟨r1, r2, e1, e2, rfl⟩ := eqVs_split _ _ _ _ _ hr
        obtain ⟨g, hg, hg1⟩ := flat_size h1
        have hlen := eqVs_length _ _ _ _ e1
        simp only [List.length_take, List.length_drop] at hlen
        have hpx := part_run (P := P) hg (hl ▸ h2) hg1 xs (m := m) (by omega) w
        have hpy := part_run (P := P) hg (hl ▸ h2) hg1 ys (m := m) (by omega) w
        have heq := ih f.type l g _ _ r1 w h1 hg e1
        simp only [List.drop_drop] at e2
        have hrest := flat_fields ih fs (m + l.length) ks' xs ys r2 w h3 (by omega) (by omega) e2
        simp only [Op.eqFields, if_pos hn, Sem.run_bind, ho, hpx, hpy, Result.andThen_ok, heq]
        cases r1 <;> simp [hrest]
    · simp at h

theorem flat_equal {P : Program} : ∀ (k d : Nat) (t : TypeId) (ks : List EK) (g : Bool) (xs ys : List Value) (r : Bool) (w : World), k ≤ d → flatEq P k t = some ks → aggOf P t = some g → eqVs ks xs ys = some r →
    (Op.equalIn d t (wrapV g xs) (wrapV g ys)).run P w = .ok r w := by
  intro k
  induction k with
  | zero => intro d t n g xs ys r w hd h; simp [flatEq] at h
  | succ k ih =>
    intro d t ks g xs ys r w hd h hg hr
    obtain ⟨d, rfl⟩ : ∃ m, d = m + 1 := ⟨d - 1, by omega⟩
    have one : ks.length = 1 → ∃ x y, xs = [x] ∧ ys = [y] := by
      intro hn
      have := eqVs_length _ _ _ _ hr
      obtain ⟨x, rfl⟩ := List.length_eq_one_iff.1 (this.1.trans hn)
      obtain ⟨y, rfl⟩ := List.length_eq_one_iff.1 (this.2.trans hn)
      exact ⟨x, y, rfl, rfl⟩
    simp only [flatEq] at h
    split at h
    · rename_i h1
      obtain rfl := Option.some.inj h
      obtain ⟨x, y, rfl, rfl⟩ := one rfl
      have hgf : g = false := by simpa [aggOf, h1] using hg.symm
      subst hgf
      simp only [eqVs] at hr
      cases x <;> cases y <;> simp [eqV] at hr
      subst hr
      simp [wrapV, Op.equalIn, run_underlying h1]
    · rename_i h1
      obtain rfl := Option.some.inj h
      obtain ⟨x, y, rfl, rfl⟩ := one rfl
      have hgf : g = false := by simpa [aggOf, h1] using hg.symm
      subst hgf
      simp only [eqVs] at hr
      cases x <;> cases y <;> simp only [eqV] at hr <;> (try simp at hr)
      rename_i k1 x1 k2 y1
      by_cases hk : k1 = k2
      · subst hk
        simp at hr
        subst hr
        simp [wrapV, Op.equalIn, run_underlying h1]
      · simp [hk] at hr
    · rename_i h1
      obtain rfl := Option.some.inj h
      obtain ⟨x, y, rfl, rfl⟩ := one rfl
      have hgf : g = false := by simpa [aggOf, h1] using hg.symm
      subst hgf
      simp only [eqVs] at hr
      cases x <;> cases y <;> simp [eqV] at hr
      subst hr
      simp [wrapV, Op.equalIn, run_underlying h1, beq_toListBytes]
    · rename_i fs h1
      have hgt : g = true := by simpa [aggOf, h1] using hg.symm
      subst hgt
      split at h
      · simp at h
      · rename_i hst
        have hfo : P.fieldsOf t = fs := by simp [Program.fieldsOf, h1]
        simp only [wrapV, if_true]
        rw [run_equalIn_struct w d t _ _ (by rw [hfo]; exact h1) (by simpa using hst), hfo]
        exact flat_fields (fun t ks g xs ys r w h hg hr => ih d t ks g xs ys r w (by omega) h hg hr) _ 0 ks xs ys r w h (Nat.zero_le _) (Nat.zero_le _) (by simpa using hr)
    · simp at h

end Go.Abs

namespace Go.Abs
open Go

section
variable {P : Program} {md : Nat → Nat → Bool} {cx : Cx} {n : Nat} {st : St} {Hd : K → Path → Hdr} {a : Act} {w : World} {o : Oper} {Kc : Ws → Prop} {KC : Act → World → Prop} {Q : Exit → Act → World → Prop}

theorem cv_inv {x y : Value} (h : VOK cx st Hd (.c (.v x)) y) : y = x := by
  cases h with | c _ _ h => cases h with | v => rfl

theorem allV_ok : ∀ {cs : List C} {xs : List Value}, allV cs = some xs → xs.length = cs.length ∧ ∀ (i : Nat) (c : C) (x : Value), cs[i]? = some c → xs[i]? = some x → c = .v x
  | [], xs, h => by simp [allV] at h; subst h; simp
  | .v y :: cs, xs, h => by
    simp only [allV] at h
    cases h1 : allV cs with
    | none => simp [h1] at h
    | some ys =>
      simp only [h1, Option.map_some, Option.some.injEq] at h
      subst h
      obtain ⟨h2, h3⟩ := allV_ok h1
      refine ⟨by simp [h2], fun i c x hc hx => ?_⟩
      cases i with
      | zero => simp at hc hx; rw [← hc, ← hx]
      | succ i => exact h3 i c x (by simpa using hc) (by simpa using hx)
  | .b _ _ :: cs, xs, h => by simp [allV] at h
  | .r _ _ _ _ _ :: cs, xs, h => by simp [allV] at h
  | .n :: cs, xs, h => by simp [allV] at h
  | .u :: cs, xs, h => by simp [allV] at h

theorem agg_inv {cs : List C} {xs : List Value} {y : Value} (h : VOK cx st Hd (.a cs) y) (hx : allV cs = some xs) : y = .agg xs.toArray := by
  cases h with
  | a cs ys hl h =>
    obtain ⟨h1, h2⟩ := allV_ok hx
    congr 1
    apply Array.ext
    · simp [hl, h1]
    · intro i h3 h4
      have hi : i < xs.length := by simpa using h4
      have hc : cs[i]? = some cs[i] := List.getElem?_eq_getElem (by omega)
      have := h2 i _ xs[i] hc (List.getElem?_eq_getElem hi)
      have hh := h i _ ys[i] hc (by simp [h3])
      rw [this] at hh
      have h5 : ys[i] = xs[i] := by
        generalize ys[i] = z at hh
        generalize xs[i] = z' at hh
        cases hh; rfl
      simpa using h5

theorem guard_int {op : BinOp} {t : TypeId} {x y : Operand} {k k' : IntKind} {m n : Int} : (eqGuard op t x y (.int k m) (.int k' n)).run P w = .ok () w := by
  cases op <;> simp [eqGuard]
theorem guard_bool {op : BinOp} {t : TypeId} {x y : Operand} {m n : Bool} : (eqGuard op t x y (.bool m) (.bool n)).run P w = .ok () w := by
  cases op <;> simp [eqGuard]
theorem guard_string {op : BinOp} {t : TypeId} {x y : Operand} {m n : ByteArray} : (eqGuard op t x y (.string m) (.string n)).run P w = .ok () w := by
  cases op <;> simp [eqGuard]
theorem guard_slice {op : BinOp} {t : TypeId} {x y : Operand} {p q : Option Addr} {i j k l : Nat} : (eqGuard op t x y (.slice p i j) (.slice q k l)).run P w = .ok () w := by
  cases op <;> simp [eqGuard]

theorem int_run {op : BinOp} {t : TypeId} {k : IntKind} {m n : Int} {r : Value} (h : intBin op k m n = some r) : (binOp op t (.int k m) (.int k n)).run P w = .ok r w := by
  cases op <;> simp only [intBin] at h <;> (try (simp at h; done)) <;> (try split at h) <;> (try (simp at h; done)) <;> (obtain rfl := Option.some.inj h) <;>
    simp_all [binOp, Op.intArith, Op.intDiv, Op.intCmp]

theorem nil_inv {y : Value} (h : VOK cx st Hd (.c .n) y) : y = .slice none 0 0 := by
  cases h with | c _ _ h => cases h with | n => rfl

theorem str_add {t : TypeId} {m m' : ByteArray} (hlt : m.size + m'.size ≤ 1073741824) : (binOp .add t (.string m) (.string m')).run P w = .ok (.string (m ++ m')) w := by
  have : ¬ (((m.size + m'.size : Nat) : Int) > IntKind.i64.max) := by
    have : IntKind.i64.max = 9223372036854775807 := by decide
    omega
  show (Op.stringOp .add m m').run P w = _
  simp only [Op.stringOp, if_neg this]
  rfl

theorem bool_eql {t : TypeId} {m n : Bool} (h1 : P.underlying t = some .bool) : (binOp .eql t (.bool m) (.bool n)).run P w = .ok (.bool (m == n)) w := by
  have h2 : (Op.equalIn 10000 t (.bool m) (.bool n)).run P w = .ok (m == n) w := run_equalIn_bool' w 9999 t m n h1
  show (do let r ← Op.equalIn 10000 t (.bool m) (.bool n); pure (Value.bool r) : Sem Value).run P w = _
  simp only [Sem.run_bind, h2, Result.andThen_ok, Sem.run_pure]
theorem bool_neq {t : TypeId} {m n : Bool} (h1 : P.underlying t = some .bool) : (binOp .neq t (.bool m) (.bool n)).run P w = .ok (.bool (!(m == n))) w := by
  have h2 : (Op.equalIn 10000 t (.bool m) (.bool n)).run P w = .ok (m == n) w := run_equalIn_bool' w 9999 t m n h1
  show (do let r ← Op.equalIn 10000 t (.bool m) (.bool n); pure (Value.bool (!r)) : Sem Value).run P w = _
  simp only [Sem.run_bind, h2, Result.andThen_ok, Sem.run_pure]
theorem slice_nil_in {t e : TypeId} {a' : Option Addr} {l cap : Nat} (d : Nat) (h1 : P.underlying t = some (.slice e)) : (Op.equalIn (d + 1) t (.slice a' l cap) (.slice none 0 0)).run P w = .ok a'.isNone w := by
  cases a' <;> simp [Op.equalIn, run_underlying h1]
theorem slice_nil {t e : TypeId} {a' : Option Addr} {l cap : Nat} (h1 : P.underlying t = some (.slice e)) : (binOp .eql t (.slice a' l cap) (.slice none 0 0)).run P w = .ok (.bool a'.isNone) w := by
  have h2 : (Op.equalIn 10000 t (.slice a' l cap) (.slice none 0 0)).run P w = .ok a'.isNone w := slice_nil_in 9999 h1
  show (do let r ← Op.equalIn 10000 t (.slice a' l cap) (.slice none 0 0); pure (Value.bool r) : Sem Value).run P w = _
  simp only [Sem.run_bind, h2, Result.andThen_ok, Sem.run_pure]

theorem op_binOp (h : Rel cx n st Hd a w) (hd : ∀ t, o.dst = some t → t < n) {op : BinOp} {t t' : TypeId} {x y : Operand} (ho : o.op = .binOp op t x y t') (hm : (opM P md o).wp P st Kc)
    (hK : ∀ ws Hd' a' w', Kc ws → Rel cx n (app ws st) Hd' a' w' → KC a' w') : o.wp P a w KC Q := by
  simp only [opM, ho] at hm
  obtain ⟨v, hv, hm1⟩ := getO_ok h hm
  obtain ⟨v2, hu, hm2⟩ := getO_ok h hm1
  clear hm hm1
  have run : ∀ {r}, (do eqGuard op t x y (a.eval x) (a.eval y); binOp op t (a.eval x) (a.eval y) : Sem Value).run P w = .ok r w → (execOp a.eval o).run P w = .ok (.value r) w := by
    intro r hr
    simp only [Sem.run_bind] at hr
    simp only [execOp, ho, Sem.run_bind, Sem.run_pure]
    rw [hr]; rfl
  unfold binM at hm2
  split at hm2
  · rename_i k m k' m'
    split at hm2
    · rename_i hk
      subst hk
      split at hm2
      · rename_i r hr
        refine put_wp h hd (run ?_) (.c _ _ (.v _)) hm2 hK
        rw [cv_inv hv, cv_inv hu]
        simp only [Sem.run_bind, guard_int, Result.andThen_ok]
        exact int_run hr
      · exact hm2.elim
    · exact hm2.elim
  · rename_i m m'
    split at hm2
    · rename_i h1
      refine put_wp h hd (run ?_) (.c _ _ (.v _)) hm2 hK
      rw [cv_inv hv, cv_inv hu]
      simp only [Sem.run_bind, guard_bool, Result.andThen_ok, bool_eql h1]
    · rename_i h1
      refine put_wp h hd (run ?_) (.c _ _ (.v _)) hm2 hK
      rw [cv_inv hv, cv_inv hu]
      simp only [Sem.run_bind, guard_bool, Result.andThen_ok, bool_neq h1]
    · exact hm2.elim
  · rename_i m m'
    split at hm2
    · obtain ⟨hlt, hm2⟩ := hm2
      refine put_wp h hd (run ?_) (.c _ _ (.v _)) hm2 hK
      rw [cv_inv hv, cv_inv hu]
      simp only [Sem.run_bind, guard_string, Result.andThen_ok, str_add hlt]
    · refine put_wp h hd (run ?_) (.c _ _ (.v _)) hm2 hK
      rw [cv_inv hv, cv_inv hu]
      simp [guard_string, binOp, Op.stringOp]
    · refine put_wp h hd (run ?_) (.c _ _ (.v _)) hm2 hK
      rw [cv_inv hv, cv_inv hu]
      simp [guard_string, binOp, Op.stringOp]
    · exact hm2.elim
  · rename_i xs ys
    split at hm2
    · rename_i xs' ys' hx hy
      split at hm2
      · rename_i ks h1 h2 h3
        have hg : aggOf P t = some true := by
          obtain ⟨g, hg, _⟩ := flat_size h3
          rw [hg]; simpa [isStruct, hg] using h1
        have hE : ∀ {r}, eqVs ks xs' ys' = some r → (Op.equalIn 10000 t (.agg xs'.toArray) (.agg ys'.toArray)).run P w = .ok r w := fun hr => flat_equal 12 10000 t ks true xs' ys' _ w (by omega) h3 hg hr
        split at hm2
        · rename_i r hr
          refine put_wp h hd (run ?_) (.c _ _ (.v _)) hm2 hK
          rw [agg_inv hv hx, agg_inv hu hy]
          simp [run_eqGuard_agg w _ t x y _ _ h2, run_eql_struct, hE hr]
        · rename_i r hr
          refine put_wp h hd (run ?_) (.c _ _ (.v _)) hm2 hK
          rw [agg_inv hv hx, agg_inv hu hy]
          simp [run_eqGuard_agg w _ t x y _ _ h2, run_neq_struct, hE hr]
        · exact hm2.elim
      · exact hm2.elim
    · exact hm2.elim
  · rename_i sz es
    have hu' := nil_inv hu
    generalize hev : a.eval x = y0 at hv
    cases hv with | c _ _ hc => cases hc with | b _ _ _ hb =>
    split at hm2
    · rename_i e1 h1
      obtain ⟨a', cap, b, oo, g, rfl, hl, hsz, ha, hcc, ht⟩ := hb.inv
      split at hm2
      · refine put_wp h hd (run ?_) (.c _ _ (.v _)) (hm2 a'.isNone) hK
        rw [hev, hu']
        simp only [Sem.run_bind, guard_slice, Result.andThen_ok]
        exact slice_nil h1
      · rcases ha with ha | ⟨rfl, _⟩
        · simp at ha
        · refine put_wp h hd (run ?_) (.c _ _ (.v _)) hm2 hK
          rw [hev, hu']
          simp only [Sem.run_bind, guard_slice, Result.andThen_ok]
          exact slice_nil h1
    · exact hm2.elim
  · exact hm2.elim

end
end Go.Abs

namespace Go.Abs
open Go

section
variable {P : Program} {md : Nat → Nat → Bool} {cx : Cx} {n : Nat} {st : St} {Hd : K → Path → Hdr} {a : Act} {w : World} {o : Oper} {Kc : Ws → Prop} {KC : Act → World → Prop} {Q : Exit → Act → World → Prop}

theorem getOs_ok (h : Rel cx n st Hd a w) : ∀ {os : List Operand} {k : List V → M} {Kc : Ws → Prop}, (getOs os k).wp P st Kc →
    ∃ vs, vs.length = os.length ∧ (∀ (i : Nat) (v : V) (x : Operand), vs[i]? = some v → os[i]? = some x → VOK cx st Hd v (a.eval x)) ∧ (k vs).wp P st Kc
  | [], k, Kc, hm => ⟨[], rfl, fun i v x h1 => by simp at h1, hm⟩
  | o :: os, k, Kc, hm => by
    obtain ⟨v, hv, hm⟩ := getO_ok h hm
    obtain ⟨vs, h1, h2, hm⟩ := getOs_ok h hm
    refine ⟨v :: vs, by simp [h1], fun i v' x h3 h4 => ?_, hm⟩
    cases i with
    | zero => simp at h3 h4; subst h3; subst h4; exact hv
    | succ i => exact h2 i v' x (by simpa using h3) (by simpa using h4)

theorem lenV_ok {v : V} {y : Value} {m : Nat} (hv : VOK cx st Hd v y) (h : lenV v = some m) : ∃ a cap, y = .slice a m cap := by
  unfold lenV at h
  split at h
  · obtain rfl := Option.some.inj h
    cases hv with | c _ _ hc => cases hc with | b _ _ _ hb => obtain ⟨a, cap, _, _, _, rfl, _⟩ := hb.inv; exact ⟨a, cap, rfl⟩
  · obtain rfl := Option.some.inj h
    cases hv with | c _ _ hc => cases hc with | r => exact ⟨_, _, rfl⟩
  · obtain rfl := Option.some.inj h
    rw [nil_inv hv]; exact ⟨_, _, rfl⟩
  · simp at h

theorem op_makeFunc (h : Rel cx n st Hd a w) (hd : ∀ t, o.dst = some t → t < n) {f : FuncId} {first caps : Array Operand} (ho : o.op = .makeFunc (.func f) first caps) (hm : (opM P md o).wp P st Kc)
    (hK : ∀ ws Hd' a' w', Kc ws → Rel cx n (app ws st) Hd' a' w' → KC a' w') : o.wp P a w KC Q := by
  simp only [opM, ho] at hm
  split at hm
  · rename_i hf
    obtain ⟨vs, h1, h2, hm⟩ := getOs_ok h hm
    have hf' : first = #[] := by simpa using hf
    subst hf'
    refine put_wp h hd (y := .func (.func f) #[] (caps.map a.eval)) (by simp [execOp, ho, Instr.makeFunc]) (.f _ _ _ (by simpa using h1.symm) (fun i v y hv hy => ?_)) hm hK
    rw [Array.getElem?_map] at hy
    cases hc : caps[i]? with
    | none => simp [hc] at hy
    | some x =>
      simp only [hc, Option.map_some, Option.some.injEq] at hy
      rw [← hy]
      exact h2 i v x hv (by simpa using hc)
  · exact hm.elim

theorem call_builtin {c : Call} {b : Builtin} (ho : o.op = .call c) (hc : c.callee = .builtin b) {v : Value} {s : Sem Value} (hb : builtin b c.argTypes o.type (c.args.map fun | .const _ => true | _ => false) (c.args.map a.eval) = (do pure (.value (← s))))
    (hr : s.run P w = .ok v w) : (execOp a.eval o).run P w = .ok (.value v) w := by
  simp only [execOp, ho]
  simp only [resolve, hc, Sem.run_bind, Sem.run_pure, Result.andThen_ok, invoke]
  refine Eq.trans (congrArg (fun s => Sem.run P s w) hb) ?_
  simp only [Sem.run_bind, hr, Result.andThen_ok, Sem.run_pure]

theorem op_len (h : Rel cx n st Hd a w) (hd : ∀ t, o.dst = some t → t < n) {c : Call} (ho : o.op = .call c) (hc : c.callee = .builtin .len) (hm : (opM P md o).wp P st Kc)
    (hK : ∀ ws Hd' a' w', Kc ws → Rel cx n (app ws st) Hd' a' w' → KC a' w') : o.wp P a w KC Q := by
  simp only [opM, ho, hc] at hm
  cases hds : o.dst with
  | none => simp only [hds] at hm; exact hm.elim
  | some d =>
    simp only [hds] at hm
    split at hm
    · rename_i x t ha ht
      cases hel : elemOf P t with
      | none => simp [hel, M.wp] at hm
      | some e =>
      simp only [hel] at hm
      obtain ⟨v, hv, hm⟩ := getO_ok h hm
      cases hl : lenV v with
      | none => simp [hl, M.wp] at hm
      | some m =>
      simp only [hl] at hm
      obtain ⟨a', cap, hy⟩ := lenV_ok hv hl
      have hargs : c.args = #[x] := by rw [← Array.toArray_toList (xs := c.args), ha]
      have htys : c.argTypes = #[t] := by rw [← Array.toArray_toList (xs := c.argTypes), ht]
      refine put_wp h hd (y := .int .i64 m) (call_builtin ho hc (s := Builtin.len_ c.argTypes o.type (c.args.map a.eval)) rfl ?_) (.c _ _ (.v _)) (by rw [hds]; exact hm) hK
      simp [hargs, htys, Builtin.len_, hy, run_underlying (elem_run hel), goInt]
    · exact hm.elim

theorem minV_ok {x y r : V} {p q : Value} (hx : VOK cx st Hd x p) (hy : VOK cx st Hd y q) (h : minV x y = some r) : ∃ z, (Builtin.min2 p q).run P w = .ok z w ∧ VOK cx st Hd r z := by
  unfold minV at h
  split at h
  · split at h
    · obtain rfl := Option.some.inj h
      rw [cv_inv hx, cv_inv hy]
      exact ⟨_, by simp [Builtin.min2], .c _ _ (.v _)⟩
    · simp at h
  · simp at h

theorem maxV_ok {x y r : V} {p q : Value} (hx : VOK cx st Hd x p) (hy : VOK cx st Hd y q) (h : maxV x y = some r) : ∃ z, (Builtin.max2 p q).run P w = .ok z w ∧ VOK cx st Hd r z := by
  unfold maxV at h
  split at h
  · split at h
    · obtain rfl := Option.some.inj h
      rw [cv_inv hx, cv_inv hy]
      exact ⟨_, by simp [Builtin.max2], .c _ _ (.v _)⟩
    · simp at h
  · simp at h

theorem op_min (h : Rel cx n st Hd a w) (hd : ∀ t, o.dst = some t → t < n) {c : Call} (ho : o.op = .call c) (hc : c.callee = .builtin .min) (hm : (opM P md o).wp P st Kc)
    (hK : ∀ ws Hd' a' w', Kc ws → Rel cx n (app ws st) Hd' a' w' → KC a' w') : o.wp P a w KC Q := by
  simp only [opM, ho, hc] at hm
  cases hds : o.dst with
  | none => simp only [hds] at hm; exact hm.elim
  | some d =>
    simp only [hds] at hm
    split at hm
    · rename_i x y ha
      obtain ⟨v, hv, hm⟩ := getO_ok h hm
      obtain ⟨v2, hv2, hm⟩ := getO_ok h hm
      cases hl : minV v v2 with
      | none => simp [hl, M.wp] at hm
      | some m =>
      simp only [hl] at hm
      obtain ⟨z, hz, hvz⟩ := minV_ok (P := P) (w := w) hv hv2 hl
      have hargs : c.args = #[x, y] := by rw [← Array.toArray_toList (xs := c.args), ha]
      refine put_wp h hd (call_builtin ho hc (s := Builtin.min_ c.argTypes o.type (c.args.map a.eval)) rfl ?_) hvz (by rw [hds]; exact hm) hK
      simp [hargs, Builtin.min_, hz]
    · exact hm.elim

theorem op_max (h : Rel cx n st Hd a w) (hd : ∀ t, o.dst = some t → t < n) {c : Call} (ho : o.op = .call c) (hc : c.callee = .builtin .max) (hm : (opM P md o).wp P st Kc)
    (hK : ∀ ws Hd' a' w', Kc ws → Rel cx n (app ws st) Hd' a' w' → KC a' w') : o.wp P a w KC Q := by
  simp only [opM, ho, hc] at hm
  cases hds : o.dst with
  | none => simp only [hds] at hm; exact hm.elim
  | some d =>
    simp only [hds] at hm
    split at hm
    · rename_i x y ha
      obtain ⟨v, hv, hm⟩ := getO_ok h hm
      obtain ⟨v2, hv2, hm⟩ := getO_ok h hm
      cases hl : maxV v v2 with
      | none => simp [hl, M.wp] at hm
      | some m =>
      simp only [hl] at hm
      obtain ⟨z, hz, hvz⟩ := maxV_ok (P := P) (w := w) hv hv2 hl
      have hargs : c.args = #[x, y] := by rw [← Array.toArray_toList (xs := c.args), ha]
      refine put_wp h hd (call_builtin ho hc (s := Builtin.max_ c.argTypes o.type (c.args.map a.eval)) rfl ?_) hvz (by rw [hds]; exact hm) hK
      simp [hargs, Builtin.max_, hz]
    · exact hm.elim

def OV (cx : Cx) (st : St) (Hd : K → Path → Hdr) (a : Act) : Option V → Option Operand → Prop
  | none, none => True
  | some v, some x => VOK cx st Hd v (a.eval x)
  | _, _ => False

theorem getOpt_ok (h : Rel cx n st Hd a w) {x : Option Operand} {k : Option V → M} {Kc : Ws → Prop} (hm : (getOpt x k).wp P st Kc) :
    ∃ v, OV cx st Hd a v x ∧ (k v).wp P st Kc := by
  cases x with
  | none => exact ⟨none, trivial, hm⟩
  | some x => obtain ⟨v, hv, hm⟩ := getO_ok h hm; exact ⟨some v, hv, hm⟩

/-- a bound as the slice expression reads it -/
def BV (a : Act) (x : Option Operand) (dflt : Nat) (i : Int) : Prop := match x with
  | none => i = dflt
  | some x => a.eval x = .int .i64 i

theorem optI_ok {x : Option Operand} {v : Option V} (hv : OV cx st Hd a v x) {dflt : Nat} {k : Int → M} {Kc : Ws → Prop} (hm : (optI v dflt k).wp P st Kc) :
    ∃ i, BV a x dflt i ∧ (k i).wp P st Kc := by
  cases v with
  | none => cases x with
    | none => exact ⟨dflt, rfl, hm⟩
    | some x => exact hv.elim
  | some v => cases x with
    | none => exact hv.elim
    | some x =>
      simp only [optI] at hm
      cases hi : intV v with
      | none => simp [hi, M.wp] at hm
      | some i => simp only [hi] at hm; exact ⟨i, intV_ok hv hi, hm⟩

theorem slice_run {t e : TypeId} {m : Nat} (hel : elemOf P t = some e) (hs : szOf P e = some m) {a' : Option Addr} {len cap : Nat} {lo hi : Option Operand} {i j : Int} (hlo : BV a lo 0 i) (hhi : BV a hi len j) (h0 : 0 ≤ i) (h1 : i ≤ j) (h2 : j ≤ len) (hc : len ≤ cap) :
    (Instr.sliceAt t (.slice a' len cap) (lo.map a.eval) (hi.map a.eval) none).run P w = .ok (.slice (if cap = i.toNat then a' else a'.map (·.add (i.toNat * m))) (j - i).toNat (cap - i.toNat)) w := by
  have hu := elem_run hel
  have hj : j ≤ cap := by omega
  have hj0 : 0 ≤ j := by omega
  cases lo with
  | none =>
    simp only [BV] at hlo
    obtain rfl : i = 0 := by simpa using hlo
    cases hi with
    | none =>
      simp only [BV] at hhi
      subst hhi
      simp [Instr.sliceAt, run_underlying hu, Instr.slice, Instr.sliceBounds, size_run hs]
    | some y =>
      simp only [BV] at hhi
      simp [Instr.sliceAt, run_underlying hu, Instr.slice, Instr.sliceBounds, Instr.sliceBound, hhi, asIntOf, hj, hj0, size_run hs]
  | some x =>
    simp only [BV] at hlo
    cases hi with
    | none =>
      simp only [BV] at hhi
      subst hhi
      simp [Instr.sliceAt, run_underlying hu, Instr.slice, Instr.sliceBounds, Instr.sliceBound, hlo, asIntOf, h0, h1, size_run hs]
      omega
    | some y =>
      simp only [BV] at hhi
      have h3 : i ≤ (j.toNat : Int) := by omega
      have h4 : max j 0 = j := by omega
      have h5 : (j - i).toNat = j.toNat - i.toNat := by omega
      simp [h4, h5, Instr.sliceAt, run_underlying hu, Instr.slice, Instr.sliceBounds, Instr.sliceBound, hlo, hhi, asIntOf, hj, hj0, h0, h3, h1, size_run hs]

theorem op_slice (h : Rel cx n st Hd a w) (hd : ∀ t, o.dst = some t → t < n) {t : TypeId} {x : Operand} {lo hi mx : Option Operand} (ho : o.op = .slice t x lo hi mx) (hm : (opM P md o).wp P st Kc)
    (hK : ∀ ws Hd' a' w', Kc ws → Rel cx n (app ws st) Hd' a' w' → KC a' w') : o.wp P a w KC Q := by
  simp only [opM, ho] at hm
  cases hel : elemOf P t with
  | none => simp [hel, M.wp] at hm
  | some e =>
  cases mx with
  | some _ => simp [hel, M.wp] at hm
  | none =>
  cases hs : szOf P e with
  | none => simp [hel, hs, M.wp] at hm
  | some m =>
  simp only [hel, hs] at hm
  obtain ⟨v, hv, hm1⟩ := getO_ok h hm
  obtain ⟨vl, hvl, hm2⟩ := getOpt_ok h hm1
  obtain ⟨vh, hvh, hm3⟩ := getOpt_ok h hm2
  cases hl : lenV v with
  | none => simp [hl, M.wp] at hm3
  | some len =>
  simp only [hl] at hm3
  obtain ⟨hm0, hm3⟩ := hm3
  obtain ⟨i, hi1, hm4⟩ := optI_ok hvl hm3
  obtain ⟨j, hj1, hm5⟩ := optI_ok hvh hm4
  clear hm hm1 hm2 hm3 hm4
  have run : ∀ {r}, (Instr.sliceAt t (a.eval x) (lo.map a.eval) (hi.map a.eval) none).run P w = .ok r w → (execOp a.eval o).run P w = .ok (.value r) w := by
    intro r hr
    simp only [execOp, ho, Sem.run_bind, Sem.run_pure, Option.map_none]
    rw [hr]; rfl
  generalize hev : a.eval x = y0 at hv
  unfold sliceM at hm5
  split at hm5
  · rename_i sz es
    obtain ⟨⟨h0, h1, h2, rfl⟩, hm6⟩ := hm5
    simp only [lenV, Option.some.injEq] at hl
    subst hl
    cases hv with | c _ _ hc => cases hc with | b _ _ _ hb =>
    obtain ⟨a', cap, b, oo, g, rfl, hle, hsz, ha, hcc, ht⟩ := hb.inv
    have hlen : ((es.drop i.toNat).take (j - i).toNat).length = (j - i).toNat := by simp; omega
    have hget : ∀ (x : Nat) (e : List T), ((es.drop i.toNat).take (j - i).toNat)[x]? = some e → es[i.toNat + x]? = some e := by
      intro x e hx
      have : x < (j - i).toNat := by have := (List.getElem?_eq_some_iff.1 hx).1; omega
      rw [List.getElem?_take_of_lt this, List.getElem?_drop] at hx
      exact hx
    have key : Bor cx.w0 cx.X (.slice (if cap = i.toNat then a' else a'.map (·.add (i.toNat * sz))) ((es.drop i.toNat).take (j - i).toNat).length (cap - i.toNat)) sz ((es.drop i.toNat).take (j - i).toNat) := by
      refine .mk _ _ _ _ b (oo + i.toNat * sz) (fun x y => g (i.toNat + x) y) (by rw [hlen]; omega) (fun x e hx => hsz _ _ (hget x e hx)) ?_ ?_ (fun x e y t hx hy => ht _ _ _ _ (hget x e hx) hy)
      · rcases ha with ha | ⟨rfl, hX⟩
        · subst ha; exact .inl (by simp)
        · by_cases hz : cap = i.toNat
          · refine .inl (List.eq_nil_of_length_eq_zero ?_); omega
          · refine .inr ⟨?_, hX⟩
            rw [if_neg hz, Option.map_some, addr_add]
      · intro x e y t hx hy
        have := hcc _ _ _ _ (hget x e hx) hy
        rw [Nat.add_mul] at this
        rw [show oo + i.toNat * sz + (x * sz + y) = oo + (i.toNat * sz + x * sz + y) by omega]
        exact this
    rw [hlen] at key
    exact put_wp h hd (run (by rw [hev]; exact slice_run hel hs hi1 hj1 h0 h1 h2 hle)) (.c _ _ (.b _ _ _ key)) hm6 hK
  · rename_i k ver p off len'
    obtain ⟨e1, sz1, es1, he, hver, hr, hm5⟩ := mutual_getR hm5
    obtain ⟨⟨h0, h1, h2, rfl⟩, hm6⟩ := hm5
    simp only [lenV, Option.some.injEq] at hl
    subst hl
    cases hv with | c _ _ hc => cases hc with | r _ _ _ _ _ a' cap hk hle hv' =>
    refine put_wp h hd (run (by rw [hev]; exact slice_run hel hs hi1 hj1 h0 h1 h2 hle)) (.c _ _ (.r _ _ _ _ _ _ _ hk (by omega) (fun sz es g hh => ?_))) hm6 hK
    obtain ⟨h3, h4⟩ := hv' sz es g hh
    refine ⟨by omega, fun hc => ?_⟩
    obtain ⟨rfl, h5⟩ := h4 (by omega)
    obtain ⟨e2, g1, _, g3, g4⟩ := hh
    rw [he] at g1
    obtain rfl := X.e.inj g1
    rw [hr] at g3
    obtain ⟨rfl, rfl⟩ := Prod.mk.inj (Option.some.inj g3)
    rw [if_neg (by omega), Option.map_some, addr_add, Nat.add_mul, Nat.add_assoc]
    exact ⟨rfl, by omega⟩
  · obtain ⟨⟨rfl, rfl⟩, hm6⟩ := hm5
    rw [nil_inv hv] at hev
    simp only [lenV, Option.some.injEq] at hl
    subst hl
    refine put_wp h hd (run (by rw [hev]; exact slice_run hel hs hi1 hj1 (by omega) (by omega) (by omega) (by omega))) ?_ hm6 hK
    exact .c _ _ .n
  · exact hm5.elim

end
end Go.Abs

namespace Go.Abs
open Go

theorem ovl_append (a b : Ws) (l : Loc) : ovl (a ++ b) l = match ovl a l with | some x => some x | none => ovl b l := by
  induction a with
  | nil => rfl
  | cons x a ih =>
    obtain ⟨l', v⟩ := x
    simp only [List.cons_append, ovl]
    split
    · rfl
    · exact ih

theorem app_append (a b : Ws) (st : St) : app (a ++ b) st = app a (app b st) := by
  funext l
  simp only [app, ovl_append]
  cases ovl a l <;> rfl

theorem app_cons (l : Loc) (x : X) (ws : Ws) (st : St) : app ((l, x) :: ws) st = app [(l, x)] (app ws st) := app_append [(l, x)] ws st

theorem app_one_same (l : Loc) (x : X) (st : St) : app [(l, x)] st l = x := by simp [app, ovl]
theorem app_one_ne {l l' : Loc} (x : X) (st : St) (h : l' ≠ l) : app [(l, x)] st l' = st l' := by simp [app, ovl, h]

theorem Rel.step {cx : Cx} {n : Nat} {st st' : St} {Hd Hd' : K → Path → Hdr} {a : Act} {w w' : World} (h : Rel cx n st Hd a w) (hs : ∀ t, st' (.s t) = st (.s t)) (hk : ∀ k ver, known st k ver → known st' k ver)
    (hv : ∀ k ver p sz es g, known st k ver → valid st' Hd' k ver p sz es g → ∃ es0, valid st Hd k ver p sz es0 g ∧ es0.length = es.length) (hheap : HeapOK cx (HeapOf st' Hd') w') (hkeep : Keep cx w') : Rel cx n st' Hd' a w' :=
  ⟨h.defers, h.size, fun t v hst => by
    rw [hs] at hst
    obtain ⟨h1, h2⟩ := h.slots t v hst
    exact ⟨h1, h2.mono hk hv⟩, hheap, hkeep, fun k h0 h1 => by
    obtain ⟨h2, h3⟩ := h.hdr k h0 h1
    have hkn : known st k 0 := ⟨h2, fun _ _ => Nat.zero_le _⟩
    refine ⟨(hk k 0 hkn).1, fun e he => ?_⟩
    obtain ⟨es0, ⟨e0, k1, _, _, k4⟩, _⟩ := hv k 0 [] e.sz e.es (Hd' k []) hkn ⟨e, he, .inl rfl, rfl, rfl⟩
    rw [← k4]
    exact h3 e0 k1⟩

/-- a root's view: fewer elements, a smaller capacity, another name -/
theorem HeapOK.view {cx : Cx} {H : Heap} {w : World} (hk : HeapOK cx H w) {i d : Ix} {r : HRow} {off len : Nat} {h0 : Hdr} (hbase : cx.w0.heap.size ≤ w.heap.size) (hi : H i = some r) (hd : d ≠ i) (hf : H d = none)
    (hl : off + len ≤ r.es.length) (hcap : len ≤ h0.cap) (hh : h0.cap ≠ 0 → h0.b = (r.hd []).b ∧ h0.o = (r.hd []).o + off * r.sz ∧ off + h0.cap ≤ (r.hd []).cap) :
    HeapOK cx ((H.set i none).set d (some ⟨r.sz, (r.es.drop off).take len, appHd h0 off len r.hd (fun _ => ⟨0, 0, 0⟩)⟩)) w := by
  refine hk.append (i := i) (i2 := i) (d := d) (n := r.sz) (news := []) hbase hi rfl hl (.inl (fun x e h => by simp at h)) (by rw [Heap.set_same, List.append_nil]) ?_ ?_ (Nat.le_refl _) (by simpa using hcap) ?_ (fun _ _ _ => rfl) ?_ (fun _ => .inr rfl)
  · intro j s hj h
    rw [Heap.set_ne _ _ hj] at h
    by_cases hji : j = i
    · subst hji; rw [Heap.set_same] at h; simp at h
    · rw [Heap.set_ne _ _ hji] at h; exact ⟨h, hji⟩
  · exact .inr (by rw [Heap.set_ne _ _ (Ne.symm hd), Heap.set_same])
  · intro hc
    obtain ⟨h1, h2, h3⟩ := hh hc
    have hrow := hk.rows i r [] r.sz r.es hi rfl
    obtain ⟨c, E, k1, k2, k3⟩ := hrow.2 (by omega)
    refine ⟨c, E, by rw [h1]; exact k1, ?_, ?_, fun x e h => by simp at h⟩
    · have : (off + h0.cap) * r.sz ≤ (r.hd []).cap * r.sz := Nat.mul_le_mul_right _ h3
      rw [Nat.add_mul] at this
      omega
    · intro x y c' E' hx hy hc'
      rw [k1] at hc'
      injection hc' with hc'
      injection hc' with hc' _ _
      subst hc'
      rw [h2, Nat.add_mul]
      congr 1
      omega
  · intro hc
    obtain ⟨h1, h2, h3⟩ := hh hc
    exact .inl ⟨h1, by omega⟩

/-- a row that owns nothing, added -/
theorem HeapOK.empty {cx : Cx} {H : Heap} {w : World} (hk : HeapOK cx H w) (hbase : cx.w0.heap.size ≤ w.heap.size) (d : Ix) (sz : Nat) :
    HeapOK cx (H.set d (some ⟨sz, [], fun _ => ⟨0, 0, 0⟩⟩)) w := by
  refine hk.remake (i := d) (Heap.set_same _ _ _) (fun j r hj h => by rw [Heap.set_ne _ _ hj] at h; exact h) (Nat.le_refl _) hbase (fun _ _ _ _ _ _ _ _ => rfl) ?_ (fun p => (d, p)) (fun p q h => by simpa using h) (fun p sz es _ h => absurd rfl h)
  intro p sz es h
  cases p with
  | nil => simp only [rowAt, Option.some.injEq, Prod.mk.injEq] at h; obtain ⟨rfl, rfl⟩ := h; exact ⟨by simp, fun h => absurd rfl h⟩
  | cons x p => obtain ⟨i, j⟩ := x; simp [rowAt, cellAt] at h

/-- the heap with what is on its way -/
def heapFl (st : St) (Hd : K → Path → Hdr) (fl : Nat → Option HRow) : Heap := fun
  | .inl k => HeapOf st Hd (.inl k)
  | .inr (j, 0) => fl j
  | .inr (_, _ + 1) => none

def setFl (fl : Nat → Option HRow) (j : Nat) (x : Option HRow) : Nat → Option HRow := fun i => if i = j then x else fl i

theorem heapFl_none (st : St) (Hd : K → Path → Hdr) : heapFl st Hd (fun _ => none) = HeapOf st Hd := by
  funext i
  cases i with
  | inl k => rfl
  | inr x => obtain ⟨a, b⟩ := x; cases b <;> rfl

theorem heapFl_setFl (st : St) (Hd : K → Path → Hdr) (fl : Nat → Option HRow) (j : Nat) (x : Option HRow) : heapFl st Hd (setFl fl j x) = (heapFl st Hd fl).set (.inr (j, 0)) x := by
  funext i
  cases i with
  | inl k => simp [heapFl, Heap.set]
  | inr y =>
    obtain ⟨a, b⟩ := y
    cases b with
    | zero => simp [heapFl, Heap.set, setFl]
    | succ b => simp [heapFl, Heap.set]

theorem heapFl_app {st : St} {Hd : K → Path → Hdr} {fl : Nat → Option HRow} {k : K} {x : X} : heapFl (app [(.k k, x)] st) Hd fl = (heapFl st Hd fl).set (.inl k) (match x with | .e e => some ⟨e.sz, e.es, Hd k⟩ | _ => none) := by
  funext i
  cases i with
  | inl k' =>
    by_cases hk : k' = k
    · subst hk
      simp only [heapFl, HeapOf, app_one_same, Heap.set_same]
      cases x <;> rfl
    · have h1 : (Sum.inl k' : Ix) ≠ .inl k := fun e => hk (Sum.inl.inj e)
      have h2 : (Loc.k k') ≠ .k k := fun e => hk (Loc.k.inj e)
      rw [Heap.set_ne _ _ h1]
      simp only [heapFl, HeapOf, app_one_ne _ _ h2]
  | inr y => obtain ⟨a, b⟩ := y; rw [Heap.set_ne _ _ (by simp)]; cases b <;> rfl

/-- what is known of a cell that was made ready for a store -/
def CellT (cx : Cx) (fl : Nat → Option HRow) (j : Nat) (t : T) (y : Value) : Prop :=
  (∃ r, fl j = some r ∧ t = .s true r.sz r.es ∧ TOK cx (r.hd []) t y) ∨ (fl j = none ∧ (∀ z zs, t ≠ .s true z zs) ∧ ∀ h, TOK cx h t y)

/-- one state follows another in which rows went away -/
structure Fewer (st st' : St) (Hd Hd' : K → Path → Hdr) : Prop where
  slots : ∀ t, st' (.s t) = st (.s t)
  kn : ∀ k ver, known st k ver → known st' k ver
  va : ∀ k ver p sz es g, known st k ver → valid st' Hd' k ver p sz es g → ∃ es0, valid st Hd k ver p sz es0 g ∧ es0.length = es.length

theorem Fewer.refl (st : St) (Hd : K → Path → Hdr) : Fewer st st Hd Hd := ⟨fun _ => rfl, fun _ _ h => h, fun _ _ _ _ es _ _ h => ⟨es, h, rfl⟩⟩
theorem Fewer.trans {a b c : St} {A B C : K → Path → Hdr} (h : Fewer a b A B) (g : Fewer b c B C) : Fewer a c A C :=
  ⟨fun t => (g.slots t).trans (h.slots t), fun k v x => g.kn k v (h.kn k v x), fun k ver p sz es gg hk hv => by
    obtain ⟨e1, h1, l1⟩ := g.va k ver p sz es gg (h.kn _ _ hk) hv
    obtain ⟨e2, h2, l2⟩ := h.va k ver p sz e1 gg hk h1
    exact ⟨e2, h2, l2.trans l1⟩⟩

theorem Fewer.cok {cx : Cx} {st st' : St} {Hd Hd' : K → Path → Hdr} (h : Fewer st st' Hd Hd') {c : C} {y : Value} (hc : COK cx st Hd c y) : COK cx st' Hd' c y := hc.mono h.kn h.va
theorem Fewer.vok {cx : Cx} {st st' : St} {Hd Hd' : K → Path → Hdr} (h : Fewer st st' Hd Hd') {c : V} {y : Value} (hc : VOK cx st Hd c y) : VOK cx st' Hd' c y := hc.mono h.kn h.va

theorem fewer_gone {st : St} {Hd : K → Path → Hdr} {k : K} {e : Ent} (h : st (.k k) = .e e) : Fewer st (app [(.k k, .gone)] st) Hd Hd := by
  refine ⟨fun t => app_one_ne _ _ (by simp), fun k' ver hk => ?_, fun k' ver p sz es g hk hv => ?_⟩
  · by_cases hkk : k' = k
    · subst hkk; exact ⟨by rw [app_one_same]; simp, fun e' he' => by rw [app_one_same] at he'; simp at he'⟩
    · have h2 : (Loc.k k') ≠ .k k := fun e => hkk (Loc.k.inj e)
      simp only [known, app_one_ne _ _ h2]; exact hk
  · obtain ⟨e', h1, h2, h3, h4⟩ := hv
    by_cases hkk : k' = k
    · subst hkk; rw [app_one_same] at h1; simp at h1
    · have h5 : (Loc.k k') ≠ .k k := fun e => hkk (Loc.k.inj e)
      rw [app_one_ne _ _ h5] at h1
      exact ⟨es, ⟨e', h1, h2, h3, h4⟩, rfl⟩

/-- the same root with another row, of the same version: what can be seen of it could be seen before -/
theorem fewer_row {st : St} {Hd : K → Path → Hdr} {k : K} {e : Ent} {es' : List (List T)} (h : st (.k k) = .e e) (hs : ∀ p sz es, rowAt e.sz es' p = some (sz, es) → ∃ es0, rowAt e.sz e.es p = some (sz, es0) ∧ es0.length = es.length) :
    Fewer st (app [(.k k, .e { e with es := es' })] st) Hd Hd := by
  refine ⟨fun t => app_one_ne _ _ (by simp), fun k' ver hk => ?_, fun k' ver p sz es g hk hv => ?_⟩
  · by_cases hkk : k' = k
    · subst hkk
      refine ⟨by rw [app_one_same]; simp, fun e' he' => ?_⟩
      rw [app_one_same] at he'
      obtain rfl := X.e.inj he'
      exact hk.2 e h
    · have h2 : (Loc.k k') ≠ .k k := fun e => hkk (Loc.k.inj e)
      simp only [known, app_one_ne _ _ h2]; exact hk
  · obtain ⟨e', h1, h2, h3, h4⟩ := hv
    by_cases hkk : k' = k
    · subst hkk
      rw [app_one_same] at h1
      obtain rfl := X.e.inj h1
      obtain ⟨es0, h5, h6⟩ := hs p sz es h3
      exact ⟨es0, ⟨e, h, h2, h5, h4⟩, h6⟩
    · have h5 : (Loc.k k') ≠ .k k := fun e => hkk (Loc.k.inj e)
      rw [app_one_ne _ _ h5] at h1
      exact ⟨es, ⟨e', h1, h2, h3, h4⟩, rfl⟩

theorem getE_inv {P : Program} {st : St} {ov : Ws} {k : K} {f : Ent → M} {Kc : Ws → Prop} (hm : (getE ov k f).wp P st Kc) : ∃ e, app ov st (.k k) = .e e ∧ (f e).wp P st Kc := by
  unfold getE at hm
  split at hm
  · rename_i e he; exact ⟨e, by simp [app, he], hm⟩
  · exact hm.elim
  · rename_i he
    simp only [M.wp] at hm
    cases hs : st (.k k) with
    | v v => rw [hs] at hm; exact hm.elim
    | gone => rw [hs] at hm; exact hm.elim
    | none => rw [hs] at hm; exact hm.elim
    | e e => rw [hs] at hm; exact ⟨e, by simp [app, he, hs], hm⟩

theorem getR_inv {P : Program} {st : St} {ov : Ws} {k : K} {ver : Nat} {p : Path} {f : Ent → Nat → List (List T) → M} {Kc : Ws → Prop} (hm : (getR ov k ver p f).wp P st Kc) :
    ∃ e sz es, app ov st (.k k) = .e e ∧ (p = [] ∨ e.ver = ver) ∧ rowAt e.sz e.es p = some (sz, es) ∧ (f e sz es).wp P st Kc := by
  obtain ⟨e, he, hm⟩ := getE_inv hm
  obtain ⟨h1, hm⟩ := hm
  cases hr : rowAt e.sz e.es p with
  | none => rw [hr] at hm; exact hm.elim
  | some x => obtain ⟨sz, es⟩ := x; rw [hr] at hm; exact ⟨e, sz, es, he, h1, hr, hm⟩

theorem path_split (x : Nat × Nat) (p : Path) : ∃ q a b, x :: p = q ++ [(a, b)] := by
  have h : x :: p ≠ [] := by simp
  refine ⟨(x :: p).dropLast, ((x :: p).getLast h).1, ((x :: p).getLast h).2, ?_⟩
  exact (List.dropLast_concat_getLast h).symm

theorem rowAt_snoc {sz : Nat} {es : List (List T)} {q : Path} {a b : Nat} {sz' : Nat} {es' : List (List T)} (h : rowAt sz es (q ++ [(a, b)]) = some (sz', es')) :
    ∃ s1 r1, rowAt sz es q = some (s1, r1) ∧ cellAt r1 a b = some (.s true sz' es') := by
  rw [rowAt_append] at h
  cases hq : rowAt sz es q with
  | none => simp [hq] at h
  | some x =>
    obtain ⟨s1, r1⟩ := x
    rw [hq] at h
    simp only [Option.bind_some, rowAt] at h
    cases hc : cellAt r1 a b with
    | none => simp [hc] at h
    | some t =>
      rw [hc] at h
      cases t with
      | v _ => simp at h
      | d => simp at h
      | s o z zs => cases o <;> simp at h; obtain ⟨rfl, rfl⟩ := h; exact ⟨s1, r1, rfl, hc⟩

theorem hole_row {sz0 : Nat} {es0 : List (List T)} {q : Path} {a b : Nat} {s1 : Nat} {r1 : List (List T)} (hq : rowAt sz0 es0 q = some (s1, r1)) (p : Path) (sz : Nat) (es : List (List T)) (h : rowAt sz0 (setRow es0 q (setCell r1 a b .d)) p = some (sz, es)) :
    ∃ es1, rowAt sz0 es0 p = some (sz, es1) ∧ es1.length = es.length := by
  rcases rowAt_setCellAt (r := ⟨sz0, es0, fun _ => ⟨0, 0, 0⟩⟩) hq (fun z zs e => T.noConfusion e) p sz es h with ⟨rfl, rfl, rfl⟩ | ⟨_, e1, h0, hl, _, _⟩
  · exact ⟨r1, hq, (setCell_length _ _ _ _).symm⟩
  · exact ⟨e1, h0, hl.symm⟩

theorem setFl_same (fl : Nat → Option HRow) (j : Nat) (x : Option HRow) : setFl fl j x j = x := by simp [setFl]
theorem setFl_ne (fl : Nat → Option HRow) {i j : Nat} (x : Option HRow) (h : i ≠ j) : setFl fl j x i = fl i := by simp [setFl, h]

/-- one cell is made ready for a store -/
theorem conv_ok {P : Program} {cx : Cx} {st : St} {Hd : K → Path → Hdr} {w : World} {ov : Ws} {kd : Option Nat} {c : C} {f : Ws → T → M} {Kc : Ws → Prop} {fl : Nat → Option HRow} {j : Nat} {y : Value}
    (hm : (conv ov kd c f).wp P st Kc) (hk : HeapOK cx (heapFl (app ov st) Hd fl) w) (hbase : cx.w0.heap.size ≤ w.heap.size) (hfl : fl j = none) (hc : COK cx (app ov st) Hd c y) :
    ∃ ov' t fl', Fewer (app ov st) (app ov' st) Hd Hd ∧ HeapOK cx (heapFl (app ov' st) Hd fl') w ∧ (∀ i, i ≠ j → fl' i = fl i) ∧ CellT cx fl' j t y ∧ y.oneCell' = true ∧ (f ov' t).wp P st Kc := by
  have hnone : heapFl (app ov st) Hd fl (.inr (j, 0)) = none := hfl
  cases hc with
  | v => exact ⟨ov, .v y, fl, .refl _ _, hk, fun _ _ => rfl, .inr ⟨hfl, fun _ _ h => T.noConfusion h, fun _ => rfl⟩, hm.1, hm.2⟩
  | b _ sz es hb => exact ⟨ov, .s false sz es, fl, .refl _ _, hk, fun _ _ => rfl, .inr ⟨hfl, fun _ _ h => by injection h with h _ _; simp at h, fun _ => hb⟩, by obtain ⟨a, cap, _, _, _, rfl, _⟩ := hb.inv; rfl, hm⟩
  | u => exact hm.elim
  | n =>
    cases kd with
    | none => exact hm.elim
    | some m =>
      refine ⟨ov, .s true m [], setFl fl j (some ⟨m, [], fun _ => ⟨0, 0, 0⟩⟩), .refl _ _, by rw [heapFl_setFl]; exact hk.empty hbase _ _, fun i hi => setFl_ne _ _ hi, .inl ⟨_, setFl_same _ _ _, rfl, ?_⟩, rfl, hm⟩
      exact ⟨none, rfl, fun h => absurd rfl h⟩
  | r k ver p off len a' cap hkn hle hv =>
    cases p with
    | nil =>
      obtain ⟨e, he, hm2⟩ := getE_inv hm
      obtain ⟨⟨hz1, hz2⟩, hm3⟩ := hm2
      subst hz1
      subst hz2
      obtain ⟨h1, h2⟩ := hv e.sz e.es _ ⟨e, he, .inl rfl, rfl, rfl⟩
      have hi : heapFl (app ov st) Hd fl (.inl k) = some ⟨e.sz, e.es, Hd k⟩ := by simp only [heapFl]; exact HeapOf_some he
      have hview := hk.view (d := .inr (j, 0)) (off := 0) (len := e.es.length) (h0 := ⟨(Hd k []).b, (Hd k []).o, cap⟩) hbase hi (by simp) hnone (by simp) hle (fun h => ⟨rfl, by simp, by simpa using (h2 h).2⟩)
      refine ⟨(.k k, .gone) :: ov, .s true e.sz e.es, setFl fl j (some ⟨e.sz, e.es, appHd ⟨(Hd k []).b, (Hd k []).o, cap⟩ 0 e.es.length (Hd k) (fun _ => ⟨0, 0, 0⟩)⟩), ?_, ?_, fun i hi => setFl_ne _ _ hi, .inl ⟨_, setFl_same _ _ _, rfl, ?_⟩, rfl, hm3⟩
      · rw [app_cons]; exact fewer_gone he
      · rw [app_cons, heapFl_setFl, heapFl_app]
        simpa using hview
      · exact ⟨a', rfl, fun h => by simpa [appHd] using (h2 h).1⟩
    | cons x p =>
      obtain ⟨q, a, b, hq⟩ := path_split x p
      have hm' : (getR ov k ver (x :: p) fun e sz es => .req (off = 0 ∧ len = es.length) (f ((.k k, .e { e with es := setAt e.es q e.sz a b .d }) :: ov) (.s true sz es))).wp P st Kc := by
        have h1 : (x :: p).dropLast = q := by rw [hq]; simp
        have h2 : (x :: p).getLast? = some (a, b) := by rw [hq]; simp
        simp only [conv, h1, h2, Option.getD_some] at hm
        exact hm
      obtain ⟨e, sz, es, he, hver, hr, hm2⟩ := getR_inv hm'
      obtain ⟨⟨hz1, hz2⟩, hm3⟩ := hm2
      subst hz1
      subst hz2
      obtain ⟨h1, h2⟩ := hv sz es _ ⟨e, he, hver, hr, rfl⟩
      rw [hq] at hr h2
      obtain ⟨s1, r1, hr1, hcell⟩ := rowAt_snoc hr
      have hi : heapFl (app ov st) Hd fl (.inl k) = some ⟨e.sz, e.es, Hd k⟩ := by simp only [heapFl]; exact HeapOf_some he
      have hset : setAt e.es q e.sz a b .d = setRow e.es q (setCell r1 a b .d) := by simp [setAt, hr1]
      -- out of the cell, to a place of its own; then the view of it
      have hdet := hk.detach (i2 := .inr (j, 0)) hi hr1 hnone hcell
      have h3 : ((heapFl (app ov st) Hd fl).set (.inl k) (some ⟨e.sz, setRow e.es q (setCell r1 a b .d), Hd k⟩)) (.inr (j, 1)) = none := by rw [Heap.set_ne _ _ (by simp)]; rfl
      have hren := hdet.rename (i := .inr (j, 0)) (i2 := .inr (j, 1)) (Heap.set_same _ _ _) (by rw [Heap.set_ne _ _ (by simp)]; exact h3)
      have hview := hren.view (i := .inr (j, 1)) (d := .inr (j, 0)) (off := 0) (len := es.length) (h0 := ⟨(Hd k (q ++ [(a, b)])).b, (Hd k (q ++ [(a, b)])).o, cap⟩) hbase (Heap.set_same _ _ _) (by simp)
        (by rw [Heap.set_ne _ _ (by simp), Heap.set_same]) (by simp) hle (fun h => ⟨rfl, by simp, by simpa using (h2 h).2⟩)
      refine ⟨(.k k, .e { e with es := setAt e.es q e.sz a b .d }) :: ov, .s true sz es, setFl fl j (some ⟨sz, es, appHd ⟨(Hd k (q ++ [(a, b)])).b, (Hd k (q ++ [(a, b)])).o, cap⟩ 0 es.length (fun p => Hd k (q ++ (a, b) :: p)) (fun _ => ⟨0, 0, 0⟩)⟩), ?_, ?_, fun i hi => setFl_ne _ _ hi, .inl ⟨_, setFl_same _ _ _, rfl, ?_⟩, rfl, hm3⟩
      · rw [app_cons, hset]; exact fewer_row he (fun p sz es h => hole_row hr1 p sz es h)
      · rw [app_cons, heapFl_setFl, heapFl_app, hset]
        refine hview.less (fun i r hir => ?_)
        by_cases h4 : i = .inr (j, 0)
        · subst h4; rw [Heap.set_same] at hir ⊢; simpa using hir
        · rw [Heap.set_ne _ _ h4] at hir ⊢
          by_cases h5 : i = .inr (j, 1)
          · subst h5; rw [Heap.set_ne _ _ (by simp)] at hir; simp [heapFl] at hir
          · rw [Heap.set_ne _ _ h5, Heap.set_ne _ _ h5, Heap.set_ne _ _ h4, Heap.set_ne _ _ h4]; exact hir
      · exact ⟨a', rfl, fun h => by simpa [appHd] using (h2 h).1⟩

theorem convs_ok {P : Program} {cx : Cx} {st : St} {Hd : K → Path → Hdr} {w : World} {Kc : Ws → Prop} (ys : Nat → Value) (hbase : cx.w0.heap.size ≤ w.heap.size) :
    ∀ (cs : List C) (ks : List (Option Nat)) (ov : Ws) (f : Ws → List T → M) (fl : Nat → Option HRow) (j : Nat), (convs ov ks cs f).wp P st Kc → HeapOK cx (heapFl (app ov st) Hd fl) w → (∀ i, j ≤ i → fl i = none) →
      (∀ (i : Nat) (c : C), cs[i]? = some c → COK cx (app ov st) Hd c (ys (j + i))) →
      ∃ ov' ts fl', Fewer (app ov st) (app ov' st) Hd Hd ∧ HeapOK cx (heapFl (app ov' st) Hd fl') w ∧ (∀ i, i < j → fl' i = fl i) ∧ ts.length = cs.length ∧ (∀ (i : Nat) (t : T), ts[i]? = some t → CellT cx fl' (j + i) t (ys (j + i)) ∧ (ys (j + i)).oneCell' = true) ∧
        (∀ i, j + cs.length ≤ i → fl' i = none) ∧ (f ov' ts).wp P st Kc
  | [], [], ov, f, fl, j, hm, hk, hfl, hc => ⟨ov, [], fl, .refl _ _, hk, fun _ _ => rfl, rfl, fun i t h => by simp at h, fun i h => hfl i (by simpa using h), hm⟩
  | [], _ :: _, ov, f, fl, j, hm, hk, hfl, hc => hm.elim
  | _ :: _, [], ov, f, fl, j, hm, hk, hfl, hc => hm.elim
  | c :: cs, kd :: ks, ov, f, fl, j, hm, hk, hfl, hc => by
    obtain ⟨ov1, t, fl1, h1, h2, h3, h4, h4', hm1⟩ := conv_ok (y := ys j) hm hk hbase (hfl j (Nat.le_refl _)) (hc 0 c rfl)
    obtain ⟨ov2, ts, fl2, k1, k2, k3, k4, k5, k6, hm2⟩ := convs_ok ys hbase cs ks ov1 (fun ov ts => f ov (t :: ts)) fl1 (j + 1) hm1 h2 (fun i hi => by rw [h3 i (by omega)]; exact hfl i (by omega))
      (fun i c' hc' => by rw [show j + 1 + i = j + (i + 1) by omega]; exact h1.cok (hc (i + 1) c' (by simpa using hc')))
    refine ⟨ov2, t :: ts, fl2, h1.trans k1, k2, fun i hi => by rw [k3 i (by omega), h3 i (by omega)], by simp [k4], fun i t' ht => ?_, fun i hi => k6 i (by simp at hi; omega), hm2⟩
    cases i with
    | zero =>
      simp only [List.getElem?_cons_zero, Option.some.injEq] at ht
      subst ht
      refine ⟨?_, by simpa using h4'⟩
      rw [Nat.add_zero]
      rcases h4 with ⟨r, hr, hh⟩ | ⟨hr, hh⟩
      · exact .inl ⟨r, by rw [k3 j (by omega)]; exact hr, hh⟩
      · exact .inr ⟨by rw [k3 j (by omega)]; exact hr, hh⟩
    | succ i =>
      rw [show j + (i + 1) = j + 1 + i by omega]
      exact k5 i t' (by simpa using ht)

/-! Cells that are written, one behind the other -/
def setCellsW (w : World) (b o : Nat) : List Value → World
  | [] => w
  | y :: ys => setCellsW (w.setCell ⟨b, o, none⟩ y) b (o + 1) ys

theorem rowAt_setRow_same {sz : Nat} {es : List (List T)} {p : Path} {sz' : Nat} {r new : List (List T)} (h : rowAt sz es p = some (sz', r)) : rowAt sz (setRow es p new) p = some (sz', new) := by
  rw [rowAt_setRow p p _ _ _ _ _ h, if_pos (List.prefix_refl _)]
  simp [rowAt]

theorem setCell_setCell (es : List (List T)) (i j : Nat) (t u : T) : setCell (setCell es i j t) i j u = setCell es i j u := by
  unfold setCell
  cases hi : es[i]? with
  | none => simp [hi]
  | some e =>
    have hil := (List.getElem?_eq_some_iff.1 hi).1
    simp [List.getElem?_set_self hil]

theorem setRow_setRow : ∀ (p : Path) (es : List (List T)) (sz sz' : Nat) (r a b : List (List T)), rowAt sz es p = some (sz', r) → setRow (setRow es p a) p b = setRow es p b
  | [], es, sz, sz', r, a, b, h => rfl
  | (i, j) :: p, es, sz, sz', r, a, b, h => by
    simp only [rowAt] at h
    cases hc : cellAt es i j with
    | none => simp [hc] at h
    | some t =>
      rw [hc] at h
      cases t with
      | v y => simp at h
      | d => simp at h
      | s o sz1 es1 =>
        cases o with
        | false => simp at h
        | true =>
          simp only [] at h
          simp only [setRow, hc, cellAt_setCell_same hc, setCell_setCell]
          rw [setRow_setRow p es1 sz1 sz' r a b h]

/-- one cell is stored and told -/
theorem put_cell {cx : Cx} {H : Heap} {w : World} (hk : HeapOK cx H w) {i : Ix} {r : HRow} {p : Path} {sz : Nat} {es : List (List T)} {a b : Nat} {el : List T} {t : T} {y : Value} {j : Ix}
    (hi : H i = some r) (hr : rowAt r.sz r.es p = some (sz, es)) (ha : es[a]? = some el) (hb : b < el.length) (hj : j ≠ i)
    (ht : (∃ f, H j = some f ∧ t = .s true f.sz f.es ∧ TOK cx (f.hd []) t y) ∨ (H j = none ∧ (∀ z zs, t ≠ .s true z zs) ∧ ∀ h, TOK cx h t y)) :
    ∃ hd', HeapOK cx ((H.set i (some ⟨r.sz, setRow r.es p (setCell es a b t), hd'⟩)).set j none) (w.setCell ⟨(r.hd p).b, (r.hd p).o + (a * sz + b), none⟩ y) ∧ (∀ q, ¬ (p ++ [(a, b)] <+: q) → hd' q = r.hd q) := by
  have hrow := hk.row hi hr
  obtain ⟨c, E, h1, h2, h3⟩ := hrow.2 (cap_ne hrow ha)
  have hsz := (h3 a el ha).1
  have hst := hk.store hi hr ha (by omega : b < sz) y
  have hr1 : rowAt r.sz (setRow r.es p (setCell es a b .d)) p = some (sz, setCell es a b .d) := rowAt_setRow_same hr
  have hy : ∀ e, (setCell es a b .d)[a]? = some e → (w.setCell ⟨(r.hd p).b, (r.hd p).o + (a * sz + b), none⟩ y).cell? ⟨(r.hd p).b, (r.hd p).o + (a * sz + b), none⟩ = some y := by
    intro e he
    have hlt := idx_lt (List.getElem?_eq_some_iff.1 ha).1 hrow.1 (by omega : b < sz)
    refine World.cell?_setCell_same (u := c[(r.hd p).o + (a * sz + b)]) (w := w) (a := ⟨(r.hd p).b, (r.hd p).o + (a * sz + b), none⟩) (v := y) ?_
    simp [World.cell?, h1]
  have hcd : cellAt (setCell es a b .d) a b = some .d := by
    refine cellAt_setCell_same (u := el[b]) ?_
    simp [cellAt, ha, hb]
  rcases ht with ⟨f, hf, rfl, hok⟩ | ⟨hf, hno, hok⟩
  · have hf1 : (H.set i (some { r with es := setRow r.es p (setCell es a b .d) })) j = some f := by rw [Heap.set_ne _ _ hj]; exact hf
    have hat := hst.attach (Heap.set_same _ _ _) hr1 hf1 hj (fun z zs h => by rw [hcd] at h; simp at h) hy hok
    refine ⟨graft r.hd (p ++ [(a, b)]) f.hd, hat.less (fun i' r' h => ?_), fun q hq => graft_not hq⟩
    by_cases hij : i' = j
    · subst hij; rw [Heap.set_same] at h; simp at h
    · rw [Heap.set_ne _ _ hij] at h ⊢
      by_cases hii : i' = i
      · subst hii
        rw [Heap.set_same] at h ⊢
        rw [setRow_setRow p _ _ _ _ _ _ hr, setCell_setCell]
        exact h
      · rw [Heap.set_ne _ _ hii] at h ⊢
        rw [Heap.set_ne _ _ hii]
        exact h
  · have href := hst.refine (Heap.set_same _ _ _) hr1 hy hno hok
    refine ⟨r.hd, href.less (fun i' r' h => ?_), fun q hq => rfl⟩
    by_cases hij : i' = j
    · subst hij; rw [Heap.set_same] at h; simp at h
    · rw [Heap.set_ne _ _ hij] at h
      by_cases hii : i' = i
      · subst hii
        rw [Heap.set_same] at h ⊢
        simp only [setRow_setRow p _ _ _ _ _ _ hr, setCell_setCell]
        exact h
      · rw [Heap.set_ne _ _ hii] at h ⊢
        rw [Heap.set_ne _ _ hii]
        exact h

end Go.Abs

namespace Go.Abs
open Go

theorem splice_length : ∀ (ts e : List T) (off : Nat), (splice e off ts).length = e.length
  | [], e, off => rfl
  | t :: ts, e, off => by simp [splice, splice_length ts]

theorem setCell_some {es : List (List T)} {a b : Nat} {el : List T} {t : T} (h : es[a]? = some el) : setCell es a b t = es.set a (el.set b t) := by simp [setCell, h]

/-- the floats from j on, m of them, are used up -/
def Used (H H' : Heap) (i : Ix) (j m : Nat) : Prop := ∀ i', i' ≠ i → (∀ x, j ≤ x → x < j + m → i' ≠ .inr (x, 0)) → H' i' = H i'

theorem puts_ok {cx : Cx} (k : K) (p : Path) : ∀ (ts : List T) (vs : List Value) (H : Heap) (w : World) (r : HRow) (sz : Nat) (es : List (List T)) (a off : Nat) (el : List T) (j : Nat), HeapOK cx H w → H (.inl k) = some r → rowAt r.sz r.es p = some (sz, es) → es[a]? = some el →
    off + ts.length ≤ el.length → vs.length = ts.length →
    (∀ (m : Nat) (t : T) (y : Value), ts[m]? = some t → vs[m]? = some y → (∃ f, H (.inr (j + m, 0)) = some f ∧ t = .s true f.sz f.es ∧ TOK cx (f.hd []) t y) ∨ (H (.inr (j + m, 0)) = none ∧ (∀ z zs, t ≠ .s true z zs) ∧ ∀ h, TOK cx h t y)) →
    ∃ H' hd', HeapOK cx H' (setCellsW w (r.hd p).b ((r.hd p).o + (a * sz + off)) vs) ∧ H' (.inl k) = some ⟨r.sz, setRow r.es p (es.set a (splice el off ts)), hd'⟩ ∧ Used H H' (.inl k) j ts.length ∧ (∀ q, (∀ m, off ≤ m → m < off + ts.length → ¬ (p ++ [(a, m)] <+: q)) → hd' q = r.hd q)
  | [], vs, H, w, r, sz, es, a, off, el, j, hk, hi, hr, ha, hl, hv, ht => by
    have : vs = [] := List.eq_nil_of_length_eq_zero hv
    subst this
    refine ⟨H, r.hd, hk, ?_, fun i' _ _ => rfl, fun q _ => rfl⟩
    have h1 : es.set a (splice el off []) = es := by
      simp only [splice]
      apply List.ext_getElem?
      intro i
      by_cases h : i = a
      · subst h; rw [ha, List.getElem?_set_self (List.getElem?_eq_some_iff.1 ha).1]
      · rw [List.getElem?_set_ne (Ne.symm h)]
    rw [h1, hi]
    have h2 : ∀ (p : Path) (es0 : List (List T)) (sz0 : Nat), rowAt sz0 es0 p = some (sz, es) → setRow es0 p es = es0 := by
      intro p
      induction p with
      | nil => intro es0 sz0 h; simp only [rowAt, Option.some.injEq, Prod.mk.injEq] at h; simp [setRow, h.2]
      | cons x p ih =>
        obtain ⟨x, y⟩ := x
        intro es0 sz0 h
        simp only [rowAt] at h
        cases hc : cellAt es0 x y with
        | none => simp [hc] at h
        | some t =>
          rw [hc] at h
          cases t with
          | v _ => simp at h
          | d => simp at h
          | s o z zs =>
            cases o with
            | false => simp at h
            | true =>
              simp only [] at h
              simp only [setRow, hc, ih zs z h]
              unfold cellAt at hc
              cases he : es0[x]? with
              | none => simp [he] at hc
              | some e =>
                rw [he] at hc
                simp only [Option.bind_some] at hc
                rw [setCell_some he]
                have h3 : e.set y (.s true z zs) = e := by
                  apply List.ext_getElem?
                  intro i
                  by_cases h : i = y
                  · subst h; rw [hc, List.getElem?_set_self (List.getElem?_eq_some_iff.1 hc).1]
                  · rw [List.getElem?_set_ne (Ne.symm h)]
                rw [h3]
                apply List.ext_getElem?
                intro i
                by_cases h : i = x
                · subst h; rw [he, List.getElem?_set_self (List.getElem?_eq_some_iff.1 he).1]
                · rw [List.getElem?_set_ne (Ne.symm h)]
    rw [h2 p r.es r.sz hr]
  | t :: ts, [], H, w, r, sz, es, a, off, el, j, hk, hi, hr, ha, hl, hv, ht => by simp at hv
  | t :: ts, y :: vs, H, w, r, sz, es, a, off, el, j, hk, hi, hr, ha, hl, hv, ht => by
    simp only [List.length_cons] at hl hv
    have hal := (List.getElem?_eq_some_iff.1 ha).1
    obtain ⟨hd1, h1, h2⟩ := put_cell hk (b := off) (y := y) (j := .inr (j, 0)) (t := t) hi hr ha (by omega) (by simp) (by simpa using ht 0 t y rfl rfl)
    have hi1 : ((H.set (.inl k) (some ⟨r.sz, setRow r.es p (setCell es a off t), hd1⟩)).set (.inr (j, 0)) none) (.inl k) = some ⟨r.sz, setRow r.es p (setCell es a off t), hd1⟩ := by
      rw [Heap.set_ne _ _ (by simp), Heap.set_same]
    have hr1 : rowAt r.sz (setRow r.es p (setCell es a off t)) p = some (sz, setCell es a off t) := rowAt_setRow_same hr
    have ha1 : (setCell es a off t)[a]? = some (el.set off t) := by rw [setCell_some ha, List.getElem?_set_self hal]
    have hp1 : hd1 p = r.hd p := h2 p not_prefix_self
    obtain ⟨H', hd', k1, k2, k3, k4⟩ := puts_ok k p ts vs _ _ _ sz (setCell es a off t) a (off + 1) (el.set off t) (j + 1) h1 hi1 hr1 ha1 (by simp; omega) (by omega) (fun m t' y' h3 h4 => by
      have := ht (m + 1) t' y' (by simpa using h3) (by simpa using h4)
      rw [show j + (m + 1) = j + 1 + m by omega] at this
      rw [Heap.set_ne _ _ (by simp; omega), Heap.set_ne _ _ (by simp)]
      exact this)
    refine ⟨H', hd', ?_, ?_, ?_, ?_⟩
    · simp only [setCellsW]
      simp only [hp1] at k1
      rw [show (r.hd p).o + (a * sz + off) + 1 = (r.hd p).o + (a * sz + (off + 1)) by omega]
      exact k1
    · rw [k2]
      congr 1
      rw [setRow_setRow p _ _ _ _ _ _ hr, setCell_some ha, List.set_set]
      rfl
    · intro i' hne hx
      rw [k3 i' hne (fun x h1 h2 => hx x (by omega) (by simp; omega)), Heap.set_ne _ _ (hx j (Nat.le_refl _) (by simp)), Heap.set_ne _ _ hne]
    · intro q hq
      rw [k4 q (fun m h1 h2 => hq m (by omega) (by simp; omega))]
      exact h2 q (hq off (Nat.le_refl _) (by simp))

theorem setCellsW_heap : ∀ (vs : List Value) (w : World) (b o : Nat) (b' : Nat), b' ≠ b → (setCellsW w b o vs).heap[b']? = w.heap[b']?
  | [], w, b, o, b', h => rfl
  | y :: vs, w, b, o, b', h => by rw [setCellsW, setCellsW_heap vs _ b _ b' h, setCell_block_ne h]

theorem setCellsW_frame : ∀ (vs : List Value) (w : World) (b o : Nat), (setCellsW w b o vs).os = w.os ∧ (setCellsW w b o vs).tape = w.tape ∧ (setCellsW w b o vs).output = w.output ∧ (setCellsW w b o vs).heap.size = w.heap.size
  | [], w, b, o => ⟨rfl, rfl, rfl, rfl⟩
  | y :: vs, w, b, o => by
    obtain ⟨h1, h2, h3, h4⟩ := setCellsW_frame vs (w.setCell ⟨b, o, none⟩ y) b (o + 1)
    exact ⟨h1, h2, h3, by rw [setCellsW, h4, setCell_heap_size]⟩

/-- a store's run -/
theorem storeCells_run {P : Program} (b o : Nat) : ∀ (vs : List Value) (i : Nat) (w : World) (c : Array Value) (E : TypeId), w.heap[b]? = some (.cells c E (0, 0)) → o + i + vs.length ≤ c.size → (∀ v ∈ vs, v.oneCell' = true) →
    (storeCells ⟨b, o, none⟩ vs i).run P w = .ok () (setCellsW w b (o + i) vs)
  | [], i, w, c, E, hg, hl, h1 => rfl
  | v :: vs, i, w, c, E, hg, hl, h1 => by
    simp only [List.length_cons] at hl
    have hcell : w.cell? ⟨b, o + i, none⟩ = some c[o + i] := by simp [World.cell?, hg]
    have hfro : w.frozen? ⟨b, o + i, none⟩ = false := by simp [World.frozen?, hg]
    have hst : (store ((⟨b, o, none⟩ : Addr).add i) v).run P w = .ok () (w.setCell ⟨b, o + i, none⟩ v) := by
      rw [addr_add, run_store P w _ v _ (h1 v (by simp)), hcell]
      simp [hfro]
    have ih := storeCells_run (P := P) b o vs (i + 1) (w.setCell ⟨b, o + i, none⟩ v) (c.setIfInBounds (o + i) v) E (setCell_block_same rfl hg) (by simp; omega) (fun x hx => h1 x (by simp [hx]))
    simp only [storeCells, Sem.run_bind, hst, Result.andThen_ok, ih, setCellsW, Nat.add_assoc]

theorem Keep.setCells {cx : Cx} {w : World} (h : Keep cx w) {b o : Nat} {vs : List Value} (hb : cx.w0.heap.size ≤ b ∨ cx.X b) : Keep cx (setCellsW w b o vs) := by
  obtain ⟨h1, h2, h3, h4⟩ := setCellsW_frame vs w b o
  refine ⟨h1.trans h.os, h2.trans h.tape, h3.trans h.output, by rw [h4]; exact h.size, fun b' hb' hX => ?_⟩
  rw [setCellsW_heap vs w b o b' (fun e => by subst e; rcases hb with hb | hb; omega; exact hX hb)]
  exact h.block b' hb' hX

theorem Keep.alloc {cx : Cx} {w : World} (h : Keep cx w) (o : Obj) : Keep cx (w.alloc o) :=
  ⟨h.os, h.tape, h.output, by have := h.size; simp; omega, fun b hb hX => by rw [alloc_heap_lt (by have := h.size; omega)]; exact h.block b hb hX⟩

theorem Keep.drew {cx : Cx} {w : World} (h : Keep cx w) : Keep cx w.drew := ⟨h.os, h.tape, h.output, h.size, h.block⟩

theorem splice_get : ∀ (ts e : List T) (off m : Nat), (splice e off ts)[m]? = if off ≤ m ∧ m < off + ts.length ∧ m < e.length then ts[m - off]? else e[m]?
  | [], e, off, m => by simp [splice]; intro h1 h2; omega
  | t :: ts, e, off, m => by
    rw [splice, splice_get ts (e.set off t) (off + 1) m]
    simp only [List.length_set, List.length_cons]
    by_cases h1 : m = off
    · subst h1
      rw [if_neg (by omega)]
      by_cases h2 : m < e.length
      · rw [if_pos (by omega), List.getElem?_set_self h2]; simp
      · rw [if_neg (by omega), List.getElem?_eq_none (by simp; omega), List.getElem?_eq_none (by omega)]
    · rw [List.getElem?_set_ne (Ne.symm h1)]
      by_cases h2 : off + 1 ≤ m ∧ m < off + 1 + ts.length ∧ m < e.length
      · rw [if_pos h2, if_pos (by omega), show m - off = (m - (off + 1)) + 1 by omega, List.getElem?_cons_succ]
      · rw [if_neg h2, if_neg (by omega)]

/-- where only plain cells were written over plain cells, every owned row is where it was -/
theorem rowAt_plain {sz0 : Nat} {es0 : List (List T)} {p : Path} {sz1 : Nat} {es : List (List T)} {i off : Nat} {el ts : List T} (hr : rowAt sz0 es0 p = some (sz1, es)) (hi : es[i]? = some el) (hts : ∀ t, t ∈ ts → T.isV t = true) (hold : ∀ t, t ∈ (el.drop off).take ts.length → T.isV t = true)
    (q : Path) (sz : Nat) (r : List (List T)) (h : rowAt sz0 (setRow es0 p (es.set i (splice el off ts))) q = some (sz, r)) :
    (∃ r0, rowAt sz0 es0 q = some (sz, r0) ∧ r0.length = r.length) ∧ ∀ m, off ≤ m → m < off + ts.length → ¬ (p ++ [(i, m)] <+: q) := by
  have hil := (List.getElem?_eq_some_iff.1 hi).1
  have hlen : (es.set i (splice el off ts)).length = es.length := by simp
  have hcell : ∀ x y z zs, cellAt (es.set i (splice el off ts)) x y = some (.s true z zs) → cellAt es x y = some (.s true z zs) ∧ ∀ m, off ≤ m → m < off + ts.length → (x, y) ≠ (i, m) := by
    intro x y z zs hc
    unfold cellAt at hc ⊢
    by_cases hx : x = i
    · subst hx
      rw [List.getElem?_set_self hil] at hc
      simp only [Option.bind_some, splice_get] at hc
      split at hc
      · have := hts _ (List.mem_of_getElem? hc)
        simp [T.isV] at this
      · rename_i hn
        refine ⟨by rw [hi]; exact hc, fun m h1 h2 he => ?_⟩
        have hy : y = m := (Prod.mk.inj he).2
        subst hy
        have := (List.getElem?_eq_some_iff.1 hc).1
        exact hn ⟨h1, h2, this⟩
    · rw [List.getElem?_set_ne (Ne.symm hx)] at hc
      exact ⟨hc, fun m _ _ he => hx (Prod.mk.inj he).1⟩
  rw [rowAt_setRow p q _ _ _ _ _ hr] at h
  split at h
  · rename_i hpq
    obtain ⟨q', rfl⟩ := hpq
    rw [List.drop_left] at h
    cases q' with
    | nil =>
      simp only [rowAt, Option.some.injEq, Prod.mk.injEq] at h
      obtain ⟨rfl, rfl⟩ := h
      refine ⟨⟨es, by simpa using hr, by simp⟩, fun m _ _ hh => ?_⟩
      have := hh.length_le
      simp at this
      omega
    | cons xy q' =>
      obtain ⟨x, y⟩ := xy
      simp only [rowAt] at h
      cases hc : cellAt (es.set i (splice el off ts)) x y with
      | none => simp [hc] at h
      | some u =>
        rw [hc] at h
        cases u with
        | v _ => simp at h
        | d => simp at h
        | s o z zs =>
          cases o with
          | false => simp at h
          | true =>
            simp only [] at h
            obtain ⟨h1, h2⟩ := hcell x y z zs hc
            refine ⟨⟨r, ?_, rfl⟩, fun m h3 h4 hh => ?_⟩
            · rw [rowAt_append, hr]
              simp only [Option.bind_some, rowAt, h1]
              exact h
            · have := (List.prefix_append_right_inj p).1 hh
              exact h2 m h3 h4 (List.cons_prefix_cons.1 this).1.symm
  · rename_i hpq
    have hno : ∀ m, off ≤ m → m < off + ts.length → ¬ (p ++ [(i, m)] <+: q) := fun m _ _ hh => hpq (List.IsPrefix.trans (List.prefix_append _ _) hh)
    split at h
    · rename_i hqp
      cases h0 : rowAt sz0 es0 q with
      | none => simp [h0] at h
      | some v =>
        obtain ⟨s2, e2⟩ := v
        rw [h0] at h
        simp only [Option.map_some, Option.some.injEq, Prod.mk.injEq] at h
        obtain ⟨rfl, rfl⟩ := h
        obtain ⟨p', rfl⟩ := hqp
        rw [rowAt_append, h0] at hr
        simp only [Option.bind_some] at hr
        refine ⟨⟨e2, rfl, ?_⟩, hno⟩
        rw [List.drop_left]
        exact (setRow_length hr hlen).symm
    · exact ⟨⟨r, h, rfl⟩, hno⟩

end Go.Abs

namespace Go.Abs
open Go

section
variable {P : Program} {md : Nat → Nat → Bool} {cx : Cx} {n : Nat} {st : St} {Hd : K → Path → Hdr} {a : Act} {w : World} {o : Oper} {Kc : Ws → Prop} {KC : Act → World → Prop} {Q : Exit → Act → World → Prop}

theorem cells_ok {v : V} {y : Value} {cs : List C} (hv : VOK cx st Hd v y) (h : v.cells = some cs) : y.cells.size = cs.length ∧ ∀ (i : Nat) (c : C), cs[i]? = some c → COK cx st Hd c (y.cells.getD i undef) := by
  cases hv with
  | c c y hc =>
    have key : y.cells = #[y] ∧ cs = [c] := by
      cases hc with
      | v => cases y <;> simp [V.cells] at h <;> exact ⟨rfl, h.symm⟩
      | b _ sz es hb => obtain ⟨a, cap, _, _, _, rfl, _⟩ := hb.inv; simp [V.cells] at h; exact ⟨rfl, h.symm⟩
      | n => simp [V.cells] at h; exact ⟨rfl, h.symm⟩
      | u => simp [V.cells] at h
      | r => simp [V.cells] at h; exact ⟨rfl, h.symm⟩
    obtain ⟨h1, rfl⟩ := key
    refine ⟨by rw [h1]; rfl, fun i c' hc' => ?_⟩
    cases i with
    | zero => simp at hc'; subst hc'; rw [h1]; exact hc
    | succ i => simp at hc'
  | a cs' ys h1 h2 =>
    simp only [V.cells, Option.some.injEq] at h
    subst h
    refine ⟨h1, fun i c hc => ?_⟩
    have hlt := (List.getElem?_eq_some_iff.1 hc).1
    have : ys[i]? = some (ys.getD i undef) := by simp [Array.getD_eq_getD_getElem?, h1, hlt]
    exact h2 i c _ hc this
  | p k ver p i off ad hk hv' => simp [V.cells] at h
  | q sz es i off b oo cap hb hi => simp [V.cells] at h
  | t vs ys h1 h2 => simp [V.cells] at h
  | f fn caps ys h1 h2 => simp [V.cells] at h
  | u => simp [V.cells] at h

theorem op_store (h : Rel cx n st Hd a w) (hd : ∀ t, o.dst = some t → t < n) {t : TypeId} {x z : Operand} (ho : o.op = .store t x z) (hm : (opM P md o).wp P st Kc)
    (hK : ∀ ws Hd' a' w', Kc ws → Rel cx n (app ws st) Hd' a' w' → KC a' w') : o.wp P a w KC Q := by
  simp only [opM, ho] at hm
  cases hdn : o.dst with
  | some _ => simp [hdn, M.wp] at hm
  | none =>
  cases hs : szOf P t with
  | none => simp [hs, hdn, M.wp] at hm
  | some m =>
  cases hks : kinds P 12 t with
  | none => simp [hs, hks, hdn, M.wp] at hm
  | some ks =>
  simp only [hs, hks, hdn] at hm
  obtain ⟨v, hv, hm1⟩ := getO_ok h hm
  obtain ⟨u2, hu, hm2⟩ := getO_ok h hm1
  clear hm hm1
  generalize hev : a.eval x = y0 at hv
  cases hv with
  | c c y hc => exact hm2.elim
  | a cs ys h1 h2 => exact hm2.elim
  | t vs ys h1 h2 => exact hm2.elim
  | f fn caps ys h1 h2 => exact hm2.elim
  | u => exact hm2.elim
  | q sz es i off b oo cap hb hi => exact hm2.elim
  | p k ver p i off ad hk hv' =>
    cases hcs : u2.cells with
    | none => simp [hcs, M.wp] at hm2
    | some cs =>
    simp only [hcs] at hm2
    obtain ⟨⟨hlen, hm0⟩, hm3⟩ := hm2
    obtain ⟨hsz, hcok⟩ := cells_ok hu hcs
    obtain ⟨ov, ts, fl, hfew, hheap, _, htl, hcell, hfl, hm4⟩ := convs_ok (fun j => (a.eval z).cells.getD j undef) (by have := h.keep.size; omega) cs ks [] _ (fun _ => none) 0 hm3 (by rw [heapFl_none]; exact h.heap) (fun _ _ => rfl) (fun i c hc => by rw [Nat.zero_add]; exact hcok i c hc)
    have hfew : Fewer st (app ov st) Hd Hd := hfew
    obtain ⟨e, sz, es, he, hver, hr, hm5⟩ := getR_inv hm4
    cases hi : es[i]? with
    | none => rw [hi] at hm5; exact hm5.elim
    | some el =>
    rw [hi] at hm5
    obtain ⟨hle, hm6⟩ := hm5
    have hil := (List.getElem?_eq_some_iff.1 hi).1
    have hpv : VOK cx (app ov st) Hd (V.p k ver p i off) (.pointer (some ad)) := hfew.vok (.p k ver p i off ad hk hv')
    have had : ad = ⟨(Hd k p).b, (Hd k p).o + (i * sz + off), none⟩ := by
      cases hpv with | p _ _ _ _ _ _ _ hv2 => exact hv2 sz es _ ⟨e, he, hver, hr, rfl⟩ hil
    have hik : heapFl (app ov st) Hd fl (.inl k) = some ⟨e.sz, e.es, Hd k⟩ := by simp only [heapFl]; exact HeapOf_some he
    have hrow := hheap.row hik hr
    obtain ⟨c, E, k1, k2, k3⟩ := hrow.2 (cap_ne hrow hi)
    have hels := (k3 i el hi).1
    obtain ⟨H', hd', g1, g2, g3, g4⟩ := puts_ok k p ts (a.eval z).cells.toList _ w _ sz es i off el 0 hheap hik hr hi (by omega) (by simp; omega) (fun m' t' y' h3 h4 => by
      have h5 := (hcell m' t' h3).1
      have h6 : (a.eval z).cells.getD (0 + m') undef = y' := by
        rw [Nat.zero_add, Array.getD_eq_getD_getElem?]
        simp at h4
        simp [h4]
      rw [h6] at h5
      exact h5)
    -- the run
    have hrun : (execOp a.eval o).run P w = .ok .skip (setCellsW w (Hd k p).b ((Hd k p).o + (i * sz + off)) (a.eval z).cells.toList) := by
      have hst := storeCells_run (P := P) (Hd k p).b ((Hd k p).o + (i * sz + off)) (a.eval z).cells.toList 0 w c E k1 (by
          have hcapk : es.length ≤ (Hd k p).cap := hrow.1
          have k2' : (Hd k p).o + (Hd k p).cap * sz ≤ c.size := k2
          have := idx_lt (b := off + m - 1) (sz := sz) hil hcapk (by omega)
          simp
          omega) (fun v hv => by
          obtain ⟨m', hm'⟩ := List.mem_iff_getElem?.1 hv
          have hlt := (List.getElem?_eq_some_iff.1 hm').1
          have hlt2 : m' < ts.length := by simp at hlt; omega
          have h7 : ts[m']? = some ts[m'] := List.getElem?_eq_getElem hlt2
          have h8 := (hcell m' _ h7).2
          rw [Nat.zero_add, Array.getD_eq_getD_getElem?] at h8
          simp at hm'
          simpa [hm'] using h8)
      rw [Nat.add_zero] at hst
      simp only [execOp, ho, Sem.run_bind, hev, had]
      have h9 : (Instr.storeAt t (.pointer (some ⟨(Hd k p).b, (Hd k p).o + (i * sz + off), none⟩)) (a.eval z)).run P w = .ok () (setCellsW w (Hd k p).b ((Hd k p).o + (i * sz + off)) (a.eval z).cells.toList) := by
        have h10 : ¬ ((a.eval z).cells.size ≠ m) := by omega
        simp only [Instr.storeAt, Instr.sureAddr, storeVar, Sem.run_bind, Sem.run_pure, Result.andThen_ok, size_run hs, if_neg h10]
        exact hst
      rw [h9]
      rfl
    have hX : cx.w0.heap.size ≤ (Hd k p).b ∨ cx.X (Hd k p).b := (hheap.blk _ _ _ _ _ ⟨_, hik, hr, rfl⟩ (cap_ne hrow hi)).2
    -- the new state
    have hts : ∀ t, t ∈ ts → ts.all T.isV = true → T.isV t = true := fun t ht h => List.all_eq_true.1 h t ht
    have hnewlen : (es.set i (splice el off ts)).length = es.length := by simp
    unfold Oper.wp
    rw [hrun]
    show KC (a.put o.dst undef) _
    rw [hdn]
    refine hK _ (fun k' => if k' = k then hd' else Hd k') _ _ hm6 ?_
    rw [app_cons]
    refine h.step (st' := _) (fun t => ?_) ?_ ?_ ?_ (h.keep.setCells hX)
    · rw [app_one_ne _ _ (by simp)]; exact hfew.slots t
    · intro k' ver' hkn
      have h1 := hfew.kn _ _ hkn
      by_cases hkk : k' = k
      · subst hkk
        refine ⟨by rw [app_one_same]; simp, fun e' he' => ?_⟩
        rw [app_one_same] at he'
        obtain rfl := X.e.inj he'
        have := h1.2 e he
        simp only []
        split <;> omega
      · have h2 : (Loc.k k') ≠ .k k := fun e => hkk (Loc.k.inj e)
        simp only [known, app_one_ne _ _ h2]; exact h1
    · intro k' ver' p' sz' es' g hkn hval
      have h1 := hfew.kn _ _ hkn
      have back : ∃ es0, valid (app ov st) Hd k' ver' p' sz' es0 g ∧ es0.length = es'.length := by
        obtain ⟨e', v1, v2, v3, v4⟩ := hval
        by_cases hkk : k' = k
        · subst hkk
          rw [app_one_same] at v1
          obtain rfl := X.e.inj v1
          simp only [if_true] at v4
          by_cases hpl : (ts.all T.isV && ((el.drop off).take m).all T.isV) = true
          · simp only [hpl, if_true] at v2
            rw [Bool.and_eq_true] at hpl
            have htl' : ts.length = m := by omega
            obtain ⟨⟨r0, r1, r2⟩, r3⟩ := rowAt_plain hr hi (fun t ht => hts t ht hpl.1) (fun t ht => List.all_eq_true.1 hpl.2 t (by rw [htl'] at ht; exact ht)) p' sz' es' v3
            refine ⟨r0, ⟨e, he, v2, r1, ?_⟩, r2⟩
            rw [← v4, g4 p' (fun m' h3 h4 => r3 m' h3 h4)]
          · simp only [hpl, if_false, Bool.false_eq_true] at v2
            have hle2 := h1.2 e he
            rcases v2 with rfl | v2
            · simp only [rowAt, Option.some.injEq, Prod.mk.injEq] at v3
              obtain ⟨rfl, rfl⟩ := v3
              refine ⟨e.es, ⟨e, he, .inl rfl, rfl, ?_⟩, (setRow_length hr hnewlen).symm⟩
              rw [← v4, g4 [] (fun m' h3 h4 hh => by have := hh.length_le; simp at this)]
            · omega
        · have h5 : (Loc.k k') ≠ .k k := fun e => hkk (Loc.k.inj e)
          rw [app_one_ne _ _ h5] at v1
          simp only [if_neg hkk] at v4
          exact ⟨es', ⟨e', v1, v2, v3, v4⟩, rfl⟩
      obtain ⟨es0, b1, b2⟩ := back
      obtain ⟨es1, b3, b4⟩ := hfew.va _ _ _ _ _ _ hkn b1
      exact ⟨es1, b3, b4.trans b2⟩
    · refine g1.less (fun i' r' hir => ?_)
      cases i' with
      | inr x => simp [HeapOf] at hir
      | inl k' =>
        by_cases hkk : k' = k
        · subst hkk
          simp only [HeapOf, app_one_same, if_true] at hir
          rw [g2, ← hir]
        · have h5 : (Loc.k k') ≠ .k k := fun e => hkk (Loc.k.inj e)
          simp only [HeapOf, app_one_ne _ _ h5, if_neg hkk] at hir
          rw [g3 (.inl k') (fun e => hkk (Sum.inl.inj e)) (fun x _ _ => by simp)]
          simp only [heapFl, HeapOf]
          exact hir

end
end Go.Abs

namespace Go.Abs
open Go

/-- a new root -/
theorem Rel.newRoot {cx : Cx} {n : Nat} {st st1 : St} {Hd : K → Path → Hdr} {a : Act} {w w' : World} (h : Rel cx n st Hd a w) (hfew : Fewer st st1 Hd Hd) {k : K} (hk : st (.k k) = .none) {sz : Nat} {es : List (List T)} {hd : Path → Hdr}
    (hheap : HeapOK cx ((HeapOf st1 Hd).set (.inl k) (some ⟨sz, es, hd⟩)) w') (hkeep : Keep cx w') : Rel cx n (app [(.k k, .e ⟨0, sz, es⟩)] st1) (fun k' => if k' = k then hd else Hd k') a w' := by
  have hkn : ∀ k' ver, known st k' ver → k' ≠ k := by
    rintro k' ver ⟨h1, _⟩ rfl
    exact h1 hk
  refine h.step (fun t => ?_) ?_ ?_ ?_ hkeep
  · rw [app_one_ne _ _ (by simp)]; exact hfew.slots t
  · intro k' ver hkv
    have h2 : (Loc.k k') ≠ .k k := fun e => hkn _ _ hkv (Loc.k.inj e)
    simp only [known, app_one_ne _ _ h2]; exact hfew.kn _ _ hkv
  · intro k' ver p sz' es' g hkv hv
    have hne := hkn _ _ hkv
    have h2 : (Loc.k k') ≠ .k k := fun e => hne (Loc.k.inj e)
    obtain ⟨e, h3, h4, h5, h6⟩ := hv
    rw [app_one_ne _ _ h2] at h3
    simp only [if_neg hne] at h6
    exact hfew.va _ _ _ _ _ _ hkv ⟨e, h3, h4, h5, h6⟩
  · refine hheap.less (fun i r hir => ?_)
    cases i with
    | inr x => simp [HeapOf] at hir
    | inl k' =>
      by_cases hkk : k' = k
      · subst hkk
        simp only [HeapOf, app_one_same, if_true] at hir
        rw [Heap.set_same]; exact hir
      · have h5 : (Loc.k k') ≠ .k k := fun e => hkk (Loc.k.inj e)
        simp only [HeapOf, app_one_ne _ _ h5, if_neg hkk] at hir
        rw [Heap.set_ne _ _ (fun e => hkk (Sum.inl.inj e))]
        simp only [HeapOf]
        exact hir

theorem fresh_inv {P : Program} {st : St} {k : K} {m : M} {Kc : Ws → Prop} (hm : (fresh k m).wp P st Kc) : st (.k k) = .none ∧ m.wp P st Kc := by
  simp only [Go.Abs.fresh, M.wp] at hm
  cases hs : st (.k k) with
  | v v => rw [hs] at hm; exact hm.elim
  | gone => rw [hs] at hm; exact hm.elim
  | e e => rw [hs] at hm; exact hm.elim
  | none => rw [hs] at hm; exact ⟨rfl, hm⟩

theorem setCellsW_same : ∀ (vs : List Value) (w : World) (b o : Nat), (∀ (m : Nat) (y : Value), vs[m]? = some y → w.cell? ⟨b, o + m, none⟩ = some y) → setCellsW w b o vs = w
  | [], w, b, o, h => rfl
  | y :: vs, w, b, o, h => by
    have h0 := h 0 y rfl
    have hh : (w.setCell ⟨b, o, none⟩ y).heap = w.heap := by
      apply Array.ext_getElem?
      intro i
      by_cases hi : i = b
      · subst hi
        unfold World.cell? at h0
        simp only [Nat.add_zero] at h0
        cases hb : w.heap[i]? with
        | none => rw [hb] at h0; simp at h0
        | some ob =>
          rw [hb] at h0
          cases ob <;> simp at h0
          rename_i c E fz
          rw [setCell_block_same (a := ⟨i, o, none⟩) rfl hb]
          have : c.setIfInBounds o y = c := by
            apply Array.ext_getElem?
            intro j
            by_cases hj : o = j
            · subst hj
              rw [h0, Array.getElem?_setIfInBounds_self_of_lt (Array.getElem?_eq_some_iff.1 h0).1]
            · rw [Array.getElem?_setIfInBounds_ne hj]
          rw [this]
      · exact setCell_block_ne (a := ⟨b, o, none⟩) hi
    have hw : w.setCell ⟨b, o, none⟩ y = w := by
      have : w.setCell ⟨b, o, none⟩ y = { w with heap := (w.setCell ⟨b, o, none⟩ y).heap } := rfl
      rw [this, hh]
    rw [setCellsW, hw]
    exact setCellsW_same vs w b (o + 1) (fun m z hz => by rw [Nat.add_assoc, Nat.add_comm 1 m]; exact h (m + 1) z (by simpa using hz))

theorem splice_full {e ts : List T} (h : e.length = ts.length) : splice e 0 ts = ts := by
  apply List.ext_getElem?
  intro m
  rw [splice_get]
  by_cases hm : m < ts.length
  · rw [if_pos (by omega), Nat.sub_zero]
  · rw [if_neg (by omega), List.getElem?_eq_none (by omega), List.getElem?_eq_none (by omega)]

/-- elements of a row of one's own are told, whose cells hold their values already -/
theorem tellL_ok {cx : Cx} (k : K) (n : Nat) : ∀ (tss : List (List T)) (H : Heap) (w : World) (r : HRow) (pre : List (List T)) (j : Nat) (ys : Nat → Value), HeapOK cx H w → H (.inl k) = some r → r.sz = n → r.es = pre ++ List.replicate tss.length (List.replicate n .d) →
    (∀ (i : Nat) (ts : List T), tss[i]? = some ts → ts.length = n ∧ ∀ (m : Nat) (t : T), ts[m]? = some t → ((∃ f, H (.inr (j + (i * n + m), 0)) = some f ∧ t = .s true f.sz f.es ∧ TOK cx (f.hd []) t (ys (i * n + m))) ∨ (H (.inr (j + (i * n + m), 0)) = none ∧ (∀ z zs, t ≠ .s true z zs) ∧ ∀ h, TOK cx h t (ys (i * n + m)))) ∧
      w.cell? ⟨(r.hd []).b, (r.hd []).o + ((pre.length + i) * n + m), none⟩ = some (ys (i * n + m))) →
    ∃ H' hd', HeapOK cx H' w ∧ H' (.inl k) = some ⟨n, pre ++ tss, hd'⟩ ∧ Used H H' (.inl k) j (tss.length * n) ∧ hd' [] = r.hd []
  | [], H, w, r, pre, j, ys, hk, hi, hn, hes, ht => by
    refine ⟨H, r.hd, hk, ?_, fun i' _ _ => rfl, rfl⟩
    rw [hi]
    obtain ⟨sz, es, hd⟩ := r
    simp at hes hn
    simp [hes, hn]
  | ts :: tss, H, w, r, pre, j, ys, hk, hi, hn, hes, ht => by
    obtain ⟨hlen, hcell⟩ := ht 0 ts rfl
    have ha : r.es[pre.length]? = some (List.replicate n .d) := by
      rw [hes, List.getElem?_append_right (Nat.le_refl _)]; simp
    have hr0 : rowAt r.sz r.es [] = some (n, r.es) := by simp [rowAt, hn]
    have hvs : ∀ (m : Nat) (y : Value), ((List.range n).map ys)[m]? = some y → m < n ∧ y = ys m := by
      intro m y hy
      have hlt : m < n := by have := (List.getElem?_eq_some_iff.1 hy).1; simpa using this
      simp [hlt] at hy
      exact ⟨hlt, hy.symm⟩
    obtain ⟨H1, hd1, h1, h2, h3, h4⟩ := puts_ok k [] ts ((List.range n).map ys) H w r n r.es pre.length 0 (List.replicate n .d) j hk hi hr0 ha (by simp [hlen]) (by simp [hlen]) (fun m t y h5 h6 => by
      obtain ⟨hlt, rfl⟩ := hvs m y h6
      have := (hcell m t h5).1
      simpa using this)
    rw [setCellsW_same _ _ _ _ (fun m y hy => by
      obtain ⟨hlt, rfl⟩ := hvs m y hy
      have hm : m < ts.length := by omega
      have := (hcell m _ (List.getElem?_eq_getElem hm)).2
      simp only [Nat.zero_mul, Nat.zero_add, Nat.add_zero] at this
      rw [Nat.add_assoc, Nat.add_zero]
      exact this)] at h1
    have hhd : hd1 [] = r.hd [] := h4 [] (fun m _ _ hh => by have := hh.length_le; simp at this)
    have hes1 : setRow r.es [] (r.es.set pre.length (splice (List.replicate n .d) 0 ts)) = (pre ++ [ts]) ++ List.replicate tss.length (List.replicate n .d) := by
      simp only [setRow]
      rw [splice_full (by simp [hlen]), hes]
      simp [List.replicate_succ]
    rw [hes1] at h2
    obtain ⟨H', hd', k1, k2, k3, k4⟩ := tellL_ok k n tss H1 w _ (pre ++ [ts]) (j + n) (fun x => ys (n + x)) h1 h2 hn rfl (fun i ts' hts => by
      obtain ⟨g1, g2⟩ := ht (i + 1) ts' (by simpa using hts)
      refine ⟨g1, fun m t hmt => ?_⟩
      obtain ⟨g3, g4⟩ := g2 m t hmt
      have e1 : (i + 1) * n + m = n + (i * n + m) := by rw [Nat.add_mul]; omega
      have hmn : m < n := by rw [← g1]; exact (List.getElem?_eq_some_iff.1 hmt).1
      rw [e1] at g3 g4
      have e2 : j + n + (i * n + m) = j + (n + (i * n + m)) := by omega
      refine ⟨?_, ?_⟩
      · rw [e2, h3 (.inr (j + (n + (i * n + m)), 0)) (by simp) (fun x h5 h6 => by simp; omega)]
        exact g3
      · simp only [hhd]
        rw [show (pre ++ [ts]).length + i = pre.length + (i + 1) by simp; omega]
        exact g4)
    refine ⟨H', hd', k1, by rw [k2]; simp, fun i' hne hx => ?_, k4.trans hhd⟩
    rw [k3 i' hne (fun x h5 h6 => hx x (by omega) (by simp [Nat.add_mul]; omega)), h3 i' hne (fun x h5 h6 => hx x h5 (by rw [hlen] at h6; simp [Nat.add_mul]; omega))]

end Go.Abs

namespace Go.Abs
open Go

theorem convsL_ok {P : Program} {cx : Cx} {st : St} {Hd : K → Path → Hdr} {w : World} {Kc : Ws → Prop} (ys : Nat → Value) (hbase : cx.w0.heap.size ≤ w.heap.size) (ks : List (Option Nat)) (n : Nat) :
    ∀ (css : List (List C)) (ov : Ws) (f : Ws → List (List T) → M) (fl : Nat → Option HRow) (j : Nat), (convsL ks ov css f).wp P st Kc → HeapOK cx (heapFl (app ov st) Hd fl) w → (∀ i, j ≤ i → fl i = none) → (∀ cs, cs ∈ css → cs.length = n) →
      (∀ (i : Nat) (cs : List C), css[i]? = some cs → ∀ (m : Nat) (c : C), cs[m]? = some c → COK cx (app ov st) Hd c (ys (j + (i * n + m)))) →
      ∃ ov' tss fl', Fewer (app ov st) (app ov' st) Hd Hd ∧ HeapOK cx (heapFl (app ov' st) Hd fl') w ∧ (∀ i, i < j → fl' i = fl i) ∧ tss.length = css.length ∧
        (∀ (i : Nat) (ts : List T), tss[i]? = some ts → ts.length = n ∧ ∀ (m : Nat) (t : T), ts[m]? = some t → CellT cx fl' (j + (i * n + m)) t (ys (j + (i * n + m))) ∧ (ys (j + (i * n + m))).oneCell' = true) ∧ (∀ i, j + css.length * n ≤ i → fl' i = none) ∧ (f ov' tss).wp P st Kc
  | [], ov, f, fl, j, hm, hk, hfl, hn, hc => ⟨ov, [], fl, .refl _ _, hk, fun _ _ => rfl, rfl, fun i ts h => by simp at h, fun i h => hfl i (by simpa using h), hm⟩
  | cs :: css, ov, f, fl, j, hm, hk, hfl, hn, hc => by
    have hn0 := hn cs (by simp)
    obtain ⟨ov1, ts, fl1, h1, h2, h3, h4, h5, h6, hm1⟩ := convs_ok ys hbase cs ks ov _ fl j hm hk hfl (fun i c hic => by have := hc 0 cs rfl i c hic; simpa using this)
    obtain ⟨ov2, tss, fl2, k1, k2, k3, k4, k5, k6, hm2⟩ := convsL_ok ys hbase ks n css ov1 _ fl1 (j + n) hm1 h2 (fun i hi => h6 i (by omega)) (fun cs' h => hn cs' (by simp [h]))
      (fun i cs' hi m c hmc => by
        have := hc (i + 1) cs' (by simpa using hi) m c hmc
        rw [show j + ((i + 1) * n + m) = j + n + (i * n + m) by rw [Nat.add_mul]; omega] at this
        exact h1.cok this)
    refine ⟨ov2, ts :: tss, fl2, h1.trans k1, k2, fun i hi => by rw [k3 i (by omega), h3 i hi], by simp [k4], fun i ts' hi => ?_, fun i hi => k6 i (by simp [Nat.add_mul] at hi; omega), hm2⟩
    cases i with
    | zero =>
      simp only [List.getElem?_cons_zero, Option.some.injEq] at hi
      subst hi
      refine ⟨by omega, fun m t hmt => ?_⟩
      obtain ⟨g1, g2⟩ := h5 m t hmt
      have hmn : m < n := by have := (List.getElem?_eq_some_iff.1 hmt).1; omega
      simp only [Nat.zero_mul, Nat.zero_add]
      refine ⟨?_, g2⟩
      rcases g1 with ⟨r, hr, hh⟩ | ⟨hr, hh⟩
      · exact .inl ⟨r, by rw [k3 _ (by omega)]; exact hr, hh⟩
      · exact .inr ⟨by rw [k3 _ (by omega)]; exact hr, hh⟩
    | succ i =>
      obtain ⟨g1, g2⟩ := k5 i ts' (by simpa using hi)
      refine ⟨g1, fun m t hmt => ?_⟩
      rw [show j + ((i + 1) * n + m) = j + n + (i * n + m) by rw [Nat.add_mul]; omega]
      exact g2 m t hmt

/-- a new root whose cells were made ready -/
theorem Rel.newTold {cx : Cx} {n0 : Nat} {st : St} {Hd : K → Path → Hdr} {a : Act} {w : World} (h : Rel cx n0 st Hd a w) {ov : Ws} {fl : Nat → Option HRow} (hfew : Fewer st (app ov st) Hd Hd) (hheap : HeapOK cx (heapFl (app ov st) Hd fl) w)
    {k : K} (hk : st (.k k) = .none) {n : Nat} {tss : List (List T)} {ys : Nat → Value} (ht : ∀ (i : Nat) (ts : List T), tss[i]? = some ts → ts.length = n ∧ ∀ (m : Nat) (t : T), ts[m]? = some t → CellT cx fl (0 + (i * n + m)) t (ys (0 + (i * n + m))))
    {c : Array Value} {E : TypeId} {cap : Nat} (hcl : tss.length ≤ cap) (hcs : cap * n ≤ c.size) (hc : ∀ i m, i < tss.length → m < n → c[i * n + m]? = some (ys (i * n + m))) :
    ∃ hd', Rel cx n0 (app [(.k k, .e ⟨0, n, tss⟩)] (app ov st)) (fun k' => if k' = k then hd' else Hd k') a (w.alloc (.cells c E (0, 0))) ∧ hd' [] = ⟨w.heap.size, 0, cap⟩ := by
  have hb : cx.w0.heap.size ≤ w.heap.size := h.keep.size
  have hfr := hheap.fresh (i := .inl k) (c := c) (E := E) (sz := n) (cap := cap) (es := List.replicate tss.length (List.replicate n .d)) hb (by simpa using hcl) hcs (fun i e he => by
    obtain ⟨h1, h2⟩ := List.getElem?_eq_some_iff.1 he
    simp at h1 h2
    subst h2
    refine ⟨by simp, fun j t hj => ?_⟩
    obtain ⟨h3, h4⟩ := List.getElem?_eq_some_iff.1 hj
    simp at h3 h4
    subst h4
    exact ⟨trivial, _, hc i j h1 h3, trivial⟩)
  obtain ⟨H', hd', g1, g2, g3, g4⟩ := tellL_ok k n tss _ _ _ [] 0 ys hfr (Heap.set_same _ _ _) rfl rfl (fun i ts hi => by
    obtain ⟨h1, h2⟩ := ht i ts hi
    refine ⟨h1, fun m t hmt => ?_⟩
    have hlt : i < tss.length := (List.getElem?_eq_some_iff.1 hi).1
    have hmn : m < n := by rw [← h1]; exact (List.getElem?_eq_some_iff.1 hmt).1
    have h3 := h2 m t hmt
    simp only [Nat.zero_add] at h3 ⊢
    refine ⟨?_, ?_⟩
    · rw [Heap.set_ne _ _ (by simp)]; exact h3
    · simp only [hdNew, List.length_nil, Nat.zero_add]
      exact (World.cell?_alloc_new w c E (i * n + m)).trans (hc i m hlt hmn))
  refine ⟨hd', ?_, by simpa [hdNew] using g4⟩
  refine h.newRoot hfew hk (hd := hd') (g1.less (fun i' r' hir => ?_)) (h.keep.alloc _)
  by_cases hi : i' = .inl k
  · subst hi; rw [Heap.set_same] at hir; rw [g2]; simpa using hir
  · rw [Heap.set_ne _ _ hi] at hir
    cases i' with
    | inr x => simp [HeapOf] at hir
    | inl k' =>
      rw [g3 _ hi (fun x _ _ => by simp), Heap.set_ne _ _ hi]
      exact hir

section
variable {P : Program} {md : Nat → Nat → Bool} {cx : Cx} {n : Nat} {st : St} {Hd : K → Path → Hdr} {a : Act} {w : World} {o : Oper} {Kc : Ws → Prop} {KC : Act → World → Prop} {Q : Exit → Act → World → Prop}

/-- the end of an operation that made a root and writes a slot -/
theorem root_wp {st1 : St} {Hd1 : K → Path → Hdr} {w1 : World} (h : Rel cx n st1 Hd1 a w1) {d : Tmp} (hds : o.dst = some d) (hd : ∀ t, o.dst = some t → t < n) {v : V} {y : Value} {ws : Ws} (hst : app ws st = st1) (hrun : (execOp a.eval o).run P w = .ok (.value y) w1) (hv : VOK cx st1 Hd1 v y)
    (hm : Kc ((.s d, .v v) :: ws)) (hK : ∀ ws Hd' a' w', Kc ws → Rel cx n (app ws st) Hd' a' w' → KC a' w') : o.wp P a w KC Q := by
  unfold Oper.wp
  rw [hrun]
  show KC (a.put o.dst y) w1
  have hr := h.put hd hv
  rw [hds] at hr ⊢
  refine hK _ Hd1 _ _ hm ?_
  rw [app_cons, hst]
  exact hr

theorem vok_new {st1 : St} {Hd1 : K → Path → Hdr} {k : K} {sz : Nat} {es : List (List T)} (he : st1 (.k k) = .e ⟨0, sz, es⟩) {b cap : Nat} (hh : Hd1 k [] = ⟨b, 0, cap⟩) : VOK cx st1 Hd1 (.p k 0 [] 0 0) (.pointer (some ⟨b, 0, none⟩)) := by
  refine .p _ _ _ _ _ _ ⟨by rw [he]; simp, fun e h => by rw [he] at h; obtain rfl := X.e.inj h; exact Nat.le_refl _⟩ (fun sz' es' g hv _ => ?_)
  obtain ⟨e, h1, _, h3, h4⟩ := hv
  rw [he] at h1
  obtain rfl := X.e.inj h1
  rw [← h4, hh]
  simp

theorem vok_newS {st1 : St} {Hd1 : K → Path → Hdr} {k : K} {sz : Nat} {es : List (List T)} (he : st1 (.k k) = .e ⟨0, sz, es⟩) {b cap len : Nat} (hlen : len = es.length) (hl : len ≤ cap) (hh : Hd1 k [] = ⟨b, 0, cap⟩) : VOK cx st1 Hd1 (.c (.r k 0 [] 0 len)) (.slice (some ⟨b, 0, none⟩) len cap) := by
  refine .c _ _ (.r _ _ _ _ _ _ _ ⟨by rw [he]; simp, fun e h => by rw [he] at h; obtain rfl := X.e.inj h; exact Nat.le_refl _⟩ hl (fun sz' es' g hv => ?_))
  obtain ⟨e, h1, _, h3, h4⟩ := hv
  rw [he] at h1
  obtain rfl := X.e.inj h1
  simp only [rowAt, Option.some.injEq, Prod.mk.injEq] at h3
  obtain ⟨rfl, rfl⟩ := h3
  rw [← h4, hh]
  exact ⟨by omega, fun _ => ⟨by simp, by simp⟩⟩

theorem op_box (h : Rel cx n st Hd a w) (hd : ∀ t, o.dst = some t → t < n) {t : TypeId} {x : Operand} (ho : o.op = .box t x) (hm : (opM P md o).wp P st Kc)
    (hK : ∀ ws Hd' a' w', Kc ws → Rel cx n (app ws st) Hd' a' w' → KC a' w') : o.wp P a w KC Q := by
  simp only [opM, ho] at hm
  cases hds : o.dst with
  | none => simp [hds, M.wp] at hm
  | some d =>
  cases hks : kinds P 12 t with
  | none => simp [hds, hks, M.wp] at hm
  | some ks =>
  cases hs : szOf P t with
  | none => simp [hds, hks, hs, M.wp] at hm
  | some m =>
  simp only [hds, hks, hs] at hm
  obtain ⟨v, hv, hm1⟩ := getO_ok h hm
  cases hcs : v.cells with
  | none => simp [hcs, M.wp] at hm1
  | some cs =>
  simp only [hcs] at hm1
  obtain ⟨hk, ⟨hm0, hlen⟩, hm2⟩ := fresh_inv hm1
  obtain ⟨hsz, hcok⟩ := cells_ok hv hcs
  obtain ⟨ov, ts, fl, hfew, hheap, _, htl, hcell, hfl, hm4⟩ := convs_ok (fun j => (a.eval x).cells.getD j undef) h.keep.size cs ks [] _ (fun _ => none) 0 hm2 (by rw [heapFl_none]; exact h.heap) (fun _ _ => rfl) (fun i c hc => by rw [Nat.zero_add]; exact hcok i c hc)
  have hfew : Fewer st (app ov st) Hd Hd := hfew
  obtain ⟨hd', hr, hh⟩ := h.newTold hfew hheap hk (n := m) (tss := [ts]) (ys := fun j => (a.eval x).cells.getD j undef) (c := (a.eval x).cells) (E := t) (cap := 1) (fun i ts' hi => by
    cases i with
    | zero =>
      simp at hi
      subst hi
      exact ⟨by omega, fun m' t' hmt => by have := (hcell m' t' hmt).1; simpa using this⟩
    | succ i => simp at hi) (by simp) (by simp; omega) (fun i m' hi hm' => by
    simp at hi
    subst hi
    simp only [Nat.zero_mul, Nat.zero_add]
    have : m' < (a.eval x).cells.size := by omega
    simp [Array.getD_eq_getD_getElem?, this])
  refine root_wp hr hds hd (ws := (.k (d, 0), .e ⟨0, m, [ts]⟩) :: ov) (app_cons _ _ _ _) (y := .pointer (some ⟨w.heap.size, 0, none⟩)) ?_ (vok_new (app_one_same _ _ _) (by simpa using hh)) hm4 hK
  simp [execOp, ho, Instr.box, newVar, newRow]

theorem getPs_ok (h : Rel cx n st Hd a w) : ∀ {os : List (Nat × Operand)} {k : List (Nat × V) → M} {Kc : Ws → Prop}, (getPs os k).wp P st Kc →
    ∃ vs, vs.length = os.length ∧ (∀ (i : Nat) (v : Nat × V) (x : Nat × Operand), vs[i]? = some v → os[i]? = some x → v.1 = x.1 ∧ VOK cx st Hd v.2 (a.eval x.2)) ∧ (k vs).wp P st Kc
  | [], k, Kc, hm => ⟨[], rfl, fun i v x h1 => by simp at h1, hm⟩
  | (j, o) :: os, k, Kc, hm => by
    obtain ⟨v, hv, hm⟩ := getO_ok h hm
    obtain ⟨vs, h1, h2, hm⟩ := getPs_ok h hm
    refine ⟨(j, v) :: vs, by simp [h1], fun i v' x h3 h4 => ?_, hm⟩
    cases i with
    | zero => simp at h3 h4; subst h3; subst h4; exact ⟨rfl, hv⟩
    | succ i => exact h2 i v' x (by simpa using h3) (by simpa using h4)

theorem isNilS_ok {v : Value} (h : isNilS v = true) : v = .slice none 0 0 := by
  unfold isNilS at h
  split at h
  · rfl
  · simp at h

theorem zeroTs_ok : ∀ {ks : List (Option Nat)} {vs : List Value} {ts : List T}, zeroTs ks vs = some ts → ts.length = vs.length ∧ ∀ (i : Nat) (t : T), ts[i]? = some t → bareT t ∧ ∃ y, vs[i]? = some y ∧ TOK cx ⟨0, 0, 0⟩ t y
  | [], [], ts, h => by simp [zeroTs] at h; subst h; exact ⟨rfl, fun i t h => by simp at h⟩
  | [], _ :: _, ts, h => by simp [zeroTs] at h
  | none :: ks, [], ts, h => by simp [zeroTs] at h
  | some m :: ks, [], ts, h => by simp [zeroTs] at h
  | none :: ks, v :: vs, ts, h => by
    simp only [zeroTs] at h
    cases h1 : zeroTs ks vs with
    | none => simp [h1] at h
    | some ts' =>
      simp only [h1, Option.map_some, Option.some.injEq] at h
      subst h
      obtain ⟨h2, h3⟩ := zeroTs_ok h1
      refine ⟨by simp [h2], fun i t ht => ?_⟩
      cases i with
      | zero => simp at ht; subst ht; exact ⟨trivial, v, rfl, rfl⟩
      | succ i => simpa using h3 i t (by simpa using ht)
  | some m :: ks, v :: vs, ts, h => by
    simp only [zeroTs] at h
    split at h
    · rename_i hn
      have hv := isNilS_ok hn
      subst hv
      cases h1 : zeroTs ks vs with
      | none => simp [h1] at h
      | some ts' =>
        simp only [h1, Option.map_some, Option.some.injEq] at h
        subst h
        obtain ⟨h2, h3⟩ := zeroTs_ok h1
        refine ⟨by simp [h2], fun i t ht => ?_⟩
        cases i with
        | zero => simp at ht; subst ht; exact ⟨rfl, _, rfl, none, rfl, fun h => absurd rfl h⟩
        | succ i => simpa using h3 i t (by simpa using ht)
    · simp at h

theorem zeroOf_ok {t : TypeId} {z : List T} (h : zeroOf P t = some z) : ∃ i zv, P.info? t = some i ∧ i.zero = some zv ∧ z.length = zv.cells.size ∧ zv.cells.size = i.size ∧ ∀ (j : Nat) (t : T), z[j]? = some t → bareT t ∧ ∃ y, zv.cells[j]? = some y ∧ TOK cx ⟨0, 0, 0⟩ t y := by
  unfold zeroOf at h
  cases hi : P.info? t with
  | none => simp [hi] at h
  | some i =>
    simp only [hi] at h
    split at h
    · rename_i zv ks hz hk
      split at h
      · rename_i hsz
        obtain ⟨h1, h2⟩ := zeroTs_ok (cx := cx) h
        exact ⟨i, zv, rfl, hz, by simpa using h1, hsz, fun j t ht => by simpa using h2 j t ht⟩
      · simp at h
    · simp at h

theorem op_alloc (h : Rel cx n st Hd a w) (hd : ∀ t, o.dst = some t → t < n) {t : TypeId} (ho : o.op = .alloc t) (hm : (opM P md o).wp P st Kc)
    (hK : ∀ ws Hd' a' w', Kc ws → Rel cx n (app ws st) Hd' a' w' → KC a' w') : o.wp P a w KC Q := by
  simp only [opM, ho] at hm
  cases hds : o.dst with
  | none => simp [hds, M.wp] at hm
  | some d =>
  cases hz : zeroOf P t with
  | none => simp [hds, hz, M.wp] at hm
  | some z =>
  cases hs : szOf P t with
  | none => simp [hds, hz, hs, M.wp] at hm
  | some m =>
  simp only [hds, hz, hs] at hm
  obtain ⟨hk, ⟨hm0, hlen⟩, hm2⟩ := fresh_inv hm
  obtain ⟨i, zv, g1, g2, g3, g4, g5⟩ := zeroOf_ok (cx := cx) hz
  have hfr := h.heap.fresh (i := .inl (d, 0)) (c := zv.cells) (E := t) (sz := m) (cap := 1) (es := [z]) h.keep.size (by simp) (by omega) (fun i e he => by
    cases i with
    | zero =>
      simp at he
      subst he
      exact ⟨hlen, fun j t ht => by rw [Nat.zero_mul, Nat.zero_add]; exact g5 j t ht⟩
    | succ i => simp at he)
  have hr := h.newRoot (Fewer.refl st Hd) hk hfr (h.keep.alloc _)
  refine root_wp hr hds hd (ws := [(.k (d, 0), .e ⟨0, m, [z]⟩)]) rfl (y := .pointer (some ⟨w.heap.size, 0, none⟩)) ?_ (vok_new (b := w.heap.size) (cap := 1) (app_one_same _ _ _) (by simp [hdNew])) hm2 hK
  simp [execOp, ho, Instr.alloc, zeroValue, typeInfo, g1, g2, newVar, newRow]

theorem partCells_ok {m : Nat} : ∀ {vs : List (Nat × V)} {i : Nat} {css : List (List C)}, partCells m i vs = some css → css.length = vs.length ∧ ∀ (j : Nat) (v : Nat × V), vs[j]? = some v → v.1 = i + j ∧ ∃ cs, css[j]? = some cs ∧ v.2.cells = some cs ∧ cs.length = m
  | [], i, css, h => by simp [partCells] at h; subst h; exact ⟨rfl, fun j v h => by simp at h⟩
  | (j0, v0) :: vs, i, css, h => by
    simp only [partCells] at h
    split at h
    · rename_i hj
      cases h1 : v0.cells with
      | none => simp [h1] at h
      | some cs =>
        cases h2 : partCells m (i + 1) vs with
        | none => simp [h1, h2] at h
        | some css' =>
          simp only [h1, h2] at h
          split at h
          · rename_i hl
            obtain rfl := Option.some.inj h
            obtain ⟨h3, h4⟩ := partCells_ok h2
            refine ⟨by simp [h3], fun j v hv => ?_⟩
            cases j with
            | zero => simp at hv; subst hv; exact ⟨by simpa using hj, cs, rfl, h1, hl⟩
            | succ j =>
              obtain ⟨h5, h6⟩ := h4 j v (by simpa using hv)
              exact ⟨by omega, by simpa using h6⟩
          · simp at h
    · simp at h

theorem foldZip (off : Nat) : ∀ (l : List Value) (k : Nat) (cs : Array Value), ((l.zipIdx k).foldl (fun cs (x : Value × Nat) => cs.setIfInBounds (off + x.2) x.1) cs).size = cs.size ∧
    ∀ x, ((l.zipIdx k).foldl (fun cs (x : Value × Nat) => cs.setIfInBounds (off + x.2) x.1) cs)[x]? = if off + k ≤ x ∧ x < off + k + l.length ∧ x < cs.size then l[x - (off + k)]? else cs[x]?
  | [], k, cs => ⟨rfl, fun x => by simp; intro h1 h2; omega⟩
  | y :: l, k, cs => by
    obtain ⟨h1, h2⟩ := foldZip off l (k + 1) (cs.setIfInBounds (off + k) y)
    simp only [List.zipIdx_cons, List.foldl_cons]
    refine ⟨by rw [h1]; simp, fun x => ?_⟩
    rw [h2 x]
    simp only [Array.size_setIfInBounds, List.length_cons]
    by_cases hx : x = off + k
    · subst hx
      rw [if_neg (by omega)]
      by_cases hc : off + k < cs.size
      · rw [if_pos (by omega), Array.getElem?_setIfInBounds_self_of_lt hc, Nat.sub_self]; rfl
      · rw [if_neg (by omega), Array.getElem?_eq_none (by simp; omega), Array.getElem?_eq_none (by omega)]
    · rw [Array.getElem?_setIfInBounds_ne (Ne.symm hx)]
      by_cases hc : off + (k + 1) ≤ x ∧ x < off + (k + 1) + l.length ∧ x < cs.size
      · rw [if_pos hc, if_pos (by omega), show x - (off + k) = (x - (off + (k + 1))) + 1 by omega, List.getElem?_cons_succ]
      · rw [if_neg hc, if_neg (by omega)]

theorem fill_one {place : Nat → Option (Nat × Nat)} {i off m : Nat} {v : Value} {rest : List (Nat × Value)} {cells : Array Value} (hp : place i = some (off, m)) (hv : v.cells.size = m) (hc : off + m ≤ cells.size) :
    ∃ c, Instr.fill place cells ((i, v) :: rest) = Instr.fill place c rest ∧ c.size = cells.size ∧ ∀ x, c[x]? = if off ≤ x ∧ x < off + m then v.cells[x - off]? else cells[x]? := by
  obtain ⟨h1, h2⟩ := foldZip off v.cells.toList 0 cells
  have hE : v.cells.zipIdx.foldl (fun cs (x : Value × Nat) => cs.setIfInBounds (off + x.2) x.1) cells = (v.cells.toList.zipIdx 0).foldl (fun cs (x : Value × Nat) => cs.setIfInBounds (off + x.2) x.1) cells := by
    rw [← Array.foldl_toList, Array.toList_zipIdx]
  refine ⟨_, ?_, (congrArg Array.size hE).trans h1, fun x => ?_⟩
  · have hcond : (v.cells.size ≠ m || off + v.cells.size > cells.size) = false := by
      simp [hv]; omega
    simp only [Instr.fill, hp, hcond, Bool.false_eq_true, if_false]
  · rw [hE, h2 x]
    simp only [Array.length_toList, Nat.add_zero, Array.getElem?_toList, hv]
    by_cases hx : off ≤ x ∧ x < off + m
    · rw [if_pos (by omega), if_pos hx]
    · rw [if_neg (by omega), if_neg hx]

/-- the cells of a literal's elements, as the machine fills them in -/
theorem fill_elems {m : Nat} : ∀ (vs : List (Nat × Value)) (i : Nat) (cells : Array Value), (∀ (j : Nat) (v : Nat × Value), vs[j]? = some v → v.1 = i + j ∧ v.2.cells.size = m) → (i + vs.length) * m ≤ cells.size →
    ∃ c, Instr.fill (fun i => some (i * m, m)) cells vs = some c ∧ c.size = cells.size ∧ (∀ x, x < i * m → c[x]? = cells[x]?) ∧ ∀ (j : Nat) (v : Nat × Value), vs[j]? = some v → ∀ x, x < m → c[(i + j) * m + x]? = v.2.cells[x]?
  | [], i, cells, h, hl => ⟨cells, rfl, rfl, fun _ _ => rfl, fun j v h => by simp at h⟩
  | (i0, v0) :: vs, i, cells, h, hl => by
    obtain ⟨h1, h2⟩ := h 0 (i0, v0) rfl
    simp only [Nat.add_zero] at h1 h2
    subst h1
    simp only [List.length_cons] at hl
    have hl1 : (i0 + 1) * m ≤ (i0 + (vs.length + 1)) * m := Nat.mul_le_mul_right _ (by omega)
    rw [Nat.add_mul, Nat.one_mul] at hl1
    obtain ⟨c1, k1, k2, k3⟩ := fill_one (place := fun i => some (i * m, m)) (i := i0) (off := i0 * m) (rest := vs) rfl h2 (by omega : i0 * m + m ≤ cells.size)
    obtain ⟨c, g1, g2, g3, g4⟩ := fill_elems vs (i0 + 1) c1 (fun j v hv => by obtain ⟨a1, a2⟩ := h (j + 1) v (by simpa using hv); exact ⟨by omega, a2⟩) (by rw [k2]; rw [show i0 + 1 + vs.length = i0 + (vs.length + 1) by omega]; exact hl)
    refine ⟨c, k1.trans g1, g2.trans k2, fun x hx => ?_, fun j v hv x hx => ?_⟩
    · rw [g3 x (by rw [Nat.add_mul, Nat.one_mul]; omega), k3 x, if_neg (by omega)]
    · cases j with
      | zero =>
        simp at hv
        subst hv
        rw [Nat.add_zero, g3 _ (by rw [Nat.add_mul, Nat.one_mul]; omega), k3, if_pos (by omega), Nat.add_sub_cancel_left]
      | succ j =>
        have := g4 j v (by simpa using hv) x hx
        rw [show i0 + (j + 1) = i0 + 1 + j by omega]
        exact this

theorem op_buildSlice (h : Rel cx n st Hd a w) (hd : ∀ t, o.dst = some t → t < n) {t : TypeId} {len : Nat} {parts : Array (Nat × Operand)} (ho : o.op = .buildSlice t len parts) (hm : (opM P md o).wp P st Kc)
    (hK : ∀ ws Hd' a' w', Kc ws → Rel cx n (app ws st) Hd' a' w' → KC a' w') : o.wp P a w KC Q := by
  simp only [opM, ho] at hm
  cases hds : o.dst with
  | none => simp [hds, M.wp] at hm
  | some d =>
  cases hel : elemOf P t with
  | none => simp [hds, hel, M.wp] at hm
  | some e =>
  cases hks : kinds P 12 e with
  | none => simp [hds, hel, hks, M.wp] at hm
  | some ks =>
  cases hs : szOf P e with
  | none => simp [hds, hel, hks, hs, M.wp] at hm
  | some m =>
  simp only [hds, hel, hks, hs] at hm
  obtain ⟨vs, hvl, hvs, hm1⟩ := getPs_ok h hm
  cases hpc : partCells m 0 vs with
  | none => simp [hpc, M.wp] at hm1
  | some css =>
  simp only [hpc] at hm1
  obtain ⟨hk, ⟨hm0, hcl, hbig, hz⟩, hm2⟩ := fresh_inv hm1
  obtain ⟨hl1, hpart⟩ := partCells_ok hpc
  obtain ⟨z, hz⟩ := Option.isSome_iff_exists.1 hz
  obtain ⟨inf, zv, g1, g2, g3, g4, g5⟩ := zeroOf_ok (cx := cx) hz
  have hinf : inf.size = m := by simp [szOf, g1] at hs; exact hs
  -- the parts as values
  have hpv : ∀ (j : Nat) (v : Nat × Value), (parts.toList.map fun x => (x.1, a.eval x.2))[j]? = some v → v.1 = 0 + j ∧ v.2.cells.size = m := by
    intro j v hj
    rw [List.getElem?_map] at hj
    cases hx : parts.toList[j]? with
    | none => simp [hx] at hj
    | some x =>
      rw [hx] at hj
      simp only [Option.map_some, Option.some.injEq] at hj
      subst hj
      have hjl := (List.getElem?_eq_some_iff.1 hx).1
      have hv : vs[j]? = some vs[j] := List.getElem?_eq_getElem (by omega)
      obtain ⟨k1, k2⟩ := hvs j _ x hv hx
      obtain ⟨k3, cs, k4, k5, k6⟩ := hpart j _ hv
      exact ⟨by simp only []; omega, by rw [(cells_ok k2 k5).1]; exact k6⟩
  have hplen : parts.toList.length = len := by omega
  obtain ⟨c, f1, f2, f3, f4⟩ := fill_elems (parts.toList.map fun x => (x.1, a.eval x.2)) 0 ((Array.range (len * m)).map (fun x => (if len * m = 0 then #[] else zv.cells)[x % (if len * m = 0 then #[] else zv.cells).size]!)) hpv (by simp; rw [← hplen]; simp)
  have hcsz : c.size = len * m := by rw [f2]; simp
  have hyc : ∀ (i : Nat) (cs : List C), css[i]? = some cs → cs.length = m ∧ ∀ (j : Nat) (c1 : C), cs[j]? = some c1 → COK cx st Hd c1 (c.getD (i * m + j) undef) := by
    intro i cs hi
    have hil := (List.getElem?_eq_some_iff.1 hi).1
    have hv : vs[i]? = some vs[i] := List.getElem?_eq_getElem (by omega)
    have hx : parts.toList[i]? = some parts.toList[i] := List.getElem?_eq_getElem (by omega)
    obtain ⟨k1, k2⟩ := hvs i _ _ hv hx
    obtain ⟨k3, cs', k4, k5, k6⟩ := hpart i _ hv
    rw [hi] at k4
    obtain rfl := Option.some.inj k4
    refine ⟨k6, fun j c1 hj => ?_⟩
    have hjm : j < m := by rw [← k6]; exact (List.getElem?_eq_some_iff.1 hj).1
    have := f4 i (parts.toList[i].1, a.eval parts.toList[i].2) (by rw [List.getElem?_map, hx]; rfl) j hjm
    rw [Nat.zero_add] at this
    have h3 := (cells_ok k2 k5).2 j c1 hj
    rw [Array.getD_eq_getD_getElem?] at h3 ⊢
    rw [this]
    exact h3
  obtain ⟨ov, tss, fl, hfew, hheap, _, htl, hcell, hfl, hm4⟩ := convsL_ok (fun j => c.getD j undef) h.keep.size ks m css [] _ (fun _ => none) 0 hm2 (by rw [heapFl_none]; exact h.heap) (fun _ _ => rfl)
    (fun cs hcs => by obtain ⟨i, hi⟩ := List.mem_iff_getElem?.1 hcs; exact (hyc i cs hi).1) (fun i cs hi j c1 hj => by simp only [Nat.zero_add]; exact (hyc i cs hi).2 j c1 hj)
  have hfew : Fewer st (app ov st) Hd Hd := hfew
  obtain ⟨hd', hr, hh⟩ := h.newTold hfew hheap hk (n := m) (tss := tss) (ys := fun j => c.getD j undef) (c := c) (E := e) (cap := len) (fun i ts hi => ⟨(hcell i ts hi).1, fun m' t' hmt => ((hcell i ts hi).2 m' t' hmt).1⟩) (by omega) (by omega) (fun i j hi hj => by
    have h4 : i * m + j < len * m := idx_lt hi (by omega) hj
    have h5 : i * m + j < c.size := by omega
    simp [Array.getD_eq_getD_getElem?, h5])
  refine root_wp hr hds hd (ws := (.k (d, 0), .e ⟨0, m, tss⟩) :: ov) (app_cons _ _ _ _) (y := .slice (some ⟨w.heap.size, 0, none⟩) len len) ?_ (vok_newS (b := w.heap.size) (cap := len) (app_one_same _ _ _) (by omega) (Nat.le_refl _) (by simpa using hh)) hm4 hK
  have hnb : ¬ (16777216 < len * m) := by omega
  have hlist : (parts.map (fun (x : Nat × Operand) => (x.1, a.eval x.2))).toList = parts.toList.map fun x => (x.1, a.eval x.2) := by simp
  have hbs : (Instr.buildSlice t len (parts.map fun (x : Nat × Operand) => (x.1, a.eval x.2))).run P w = .ok (.slice (some ⟨w.heap.size, 0, none⟩) len len) (w.alloc (.cells c e (0, 0))) := by
    simp only [Instr.buildSlice, Sem.run_bind, run_underlying (elem_run hel), Result.andThen_ok, size_run hs]
    have hpow : ¬ (len * m > 2 ^ 24) := by omega
    simp only [if_neg hpow, Sem.run_bind, Sem.run_pure, Result.andThen_ok]
    by_cases h0 : len * m = 0
    · simp only [if_pos h0] at f1 ⊢
      simp only [Sem.run_bind, Sem.run_pure, Result.andThen_ok]
      rw [hlist, f1]
      simp [newRow]
    · simp only [if_neg h0] at f1 ⊢
      simp only [zeroValue, typeInfo, Sem.run_bind, run_program, Result.andThen_ok, g1, g2, Sem.run_pure]
      rw [hlist, f1]
      simp [newRow]
  simp only [execOp, ho, Sem.run_bind]
  rw [show (parts.map fun x => match x with | (i, x) => (i, a.eval x)) = parts.map (fun (x : Nat × Operand) => (x.1, a.eval x.2)) from rfl, hbs]
  rfl

end
end Go.Abs

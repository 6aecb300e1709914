/- A small abstract machine over the kit's wp, part of it: states of slots and owned rows, and what each operation does to them. No condition. -/
import Derived.Test.YtolmelplkiefjaaMachTwo
set_option linter.unusedVariables false
set_option linter.unusedSimpArgs false
set_option linter.constructorNameAsVariable false
namespace Go.Abs
open Go

section
variable {P : Program} {md : Nat → Nat → Bool} {cx : Cx} {n : Nat} {st : St} {Hd : K → Path → Hdr} {a : Act} {w : World} {o : Oper} {Kc : Ws → Prop} {KC : Act → World → Prop} {Q : Exit → Act → World → Prop}

theorem op_makeSlice (h : Rel cx n st Hd a w) (hd : ∀ t, o.dst = some t → t < n) {t : TypeId} {l c : Operand} (ho : o.op = .makeSlice t l c) (hm : (opM P md o).wp P st Kc)
    (hK : ∀ ws Hd' a' w', Kc ws → Rel cx n (app ws st) Hd' a' w' → KC a' w') : o.wp P a w KC Q := by
  simp only [opM, ho] at hm
  cases hds : o.dst with
  | none => simp [hds, M.wp] at hm
  | some d =>
  cases hel : elemOf P t with
  | none => simp [hds, hel, M.wp] at hm
  | some e =>
  cases hz : zeroOf P e with
  | none => simp [hds, hel, hz, M.wp] at hm
  | some z =>
  cases hs : szOf P e with
  | none => simp [hds, hel, hz, hs, M.wp] at hm
  | some m =>
  cases hb : bytesOf P e with
  | none => simp [hds, hel, hz, hs, hb, M.wp] at hm
  | some by_ =>
  simp only [hds, hel, hz, hs, hb] at hm
  obtain ⟨v1, hv1, hm1⟩ := getO_ok h hm
  obtain ⟨v2, hv2, hm2⟩ := getO_ok h hm1
  cases hi1 : intV v1 with
  | none => simp [hi1, M.wp] at hm2
  | some i =>
  cases hi2 : intV v2 with
  | none => simp [hi1, hi2, M.wp] at hm2
  | some i' =>
  simp only [hi1, hi2] at hm2
  obtain ⟨hk, ⟨hm0, hzl, h0, hE, hby, hle⟩, hm3⟩ := fresh_inv hm2
  subst hE
  have e1 := intV_ok hv1 hi1
  have e2 := intV_ok hv2 hi2
  obtain ⟨inf, zv, g1, g2, g3, g4, g5⟩ := zeroOf_ok (cx := cx) hz
  have hinf : inf.size = m := by simp [szOf, g1] at hs; exact hs
  have hbi : inf.bytes = by_ := by simp [bytesOf, g1] at hb; exact hb
  let cs : Array Value := (Array.range (i.toNat * m)).map fun x => (if i.toNat * m = 0 then #[] else zv.cells)[x % (if i.toNat * m = 0 then #[] else zv.cells).size]!
  have hcs : ∀ x y, x < i.toNat → y < m → cs[x * m + y]? = zv.cells[y]? := by
    intro x y hx hy
    have h1 : x * m + y < i.toNat * m := idx_lt hx (Nat.le_refl _) hy
    have h2 : ¬ (i.toNat * m = 0) := by omega
    have h3 : zv.cells.size = m := by omega
    have h4 : (x * m + y) % m = y := by rw [Nat.mul_comm, Nat.mul_add_mod, Nat.mod_eq_of_lt hy]
    simp only [cs, if_neg h2]
    rw [Array.getElem?_map, Array.getElem?_range, if_pos h1]
    simp [h3, h4, hy]
  have hfr := h.heap.fresh (i := .inl (d, 0)) (c := cs) (E := e) (sz := m) (cap := i.toNat) (es := List.replicate i.toNat z) h.keep.size (by simp) (by simp [cs]) (fun x el he => by
    obtain ⟨h1, h2⟩ := List.getElem?_eq_some_iff.1 he
    simp at h1 h2
    subst h2
    refine ⟨hzl, fun y t ht => ?_⟩
    have hy : y < m := by rw [← hzl]; exact (List.getElem?_eq_some_iff.1 ht).1
    rw [hcs x y (by omega) hy]
    exact g5 y t ht)
  have hr := h.newRoot (Fewer.refl st Hd) hk hfr (h.keep.alloc _)
  have hw : IntKind.i64.wrap i = i := IntWalk.i64_in i (by omega)
  have hrun : (Instr.makeSlice t (.int .i64 i) (.int .i64 i)).run P w = .ok (.slice (some ⟨w.heap.size, 0, none⟩) i.toNat i.toNat) (w.alloc (.cells cs e (0, 0))) := by
    have c1 : ¬ (i < 0) := by omega
    have c2 : ¬ ((by_ : Int) * i > 281474976710656) := by
      have h3 : ((i.toNat * by_ : Nat) : Int) ≤ ((140737488355328 : Nat) : Int) := Int.ofNat_le.2 hby
      rw [Int.natCast_mul, Int.toNat_of_nonneg h0] at h3
      have h4 : (by_ : Int) * i = i * by_ := Int.mul_comm _ _
      omega
    simp only [Instr.makeSlice, Sem.run_bind, run_underlying (elem_run hel), Result.andThen_ok, asInt, asIntOf, Sem.run_pure, typeInfo, run_program, g1, hw, hbi, size_run hs]
    simp [c1, c2, size_run hs]
    by_cases hz0 : i.toNat * m = 0
    · simp [cs, hz0, newRow]
    · simp [cs, hz0, newRow, zeroValue, typeInfo, g1, g2]
  refine root_wp hr hds hd (ws := [(.k (d, 0), .e ⟨0, m, List.replicate i.toNat z⟩)]) rfl (y := .slice (some ⟨w.heap.size, 0, none⟩) i.toNat i.toNat) ?_ (vok_newS (b := w.heap.size) (cap := i.toNat) (app_one_same _ _ _) (by simp) (Nat.le_refl _) (by simp [hdNew])) hm3 hK
  simp only [execOp, ho, Sem.run_bind, e1, e2, hrun]
  rfl

theorem spliceC_length : ∀ (ts e : List C) (off : Nat), (spliceC e off ts).length = e.length
  | [], e, off => rfl
  | t :: ts, e, off => by simp [spliceC, spliceC_length ts]

theorem spliceC_get : ∀ (ts e : List C) (off m : Nat), (spliceC e off ts)[m]? = if off ≤ m ∧ m < off + ts.length ∧ m < e.length then ts[m - off]? else e[m]?
  | [], e, off, m => by simp [spliceC]; intro h1 h2; omega
  | t :: ts, e, off, m => by
    rw [spliceC, spliceC_get ts (e.set off t) (off + 1) m]
    simp only [List.length_set, List.length_cons]
    by_cases h1 : m = off
    · subst h1
      rw [if_neg (by omega)]
      by_cases h2 : m < e.length
      · rw [if_pos (by omega), List.getElem?_set_self h2]; simp
      · rw [if_neg (by omega), List.getElem?_eq_none (by simp; omega), List.getElem?_eq_none (by omega)]
    · rw [List.getElem?_set_ne (Ne.symm h1)]
      by_cases h2 : off + 1 ≤ m ∧ m < off + 1 + ts.length ∧ m < e.length
      · rw [if_pos h2, if_pos (by omega), show m - off = (m - (off + 1)) + 1 by omega, List.getElem?_cons_succ]
      · rw [if_neg h2, if_neg (by omega)]

theorem fillC_ok {t : TypeId} {place : Nat → Option (Nat × Nat)} (hplace : ∀ f off m g, fieldOf P t f = some (off, m, g) → place f = some (off, m)) :
    ∀ (ps : List (Nat × V)) (vs : List (Nat × Value)) (cs : List C) (ys : Array Value) (k : List C → M) (Kc : Ws → Prop), (fillC P t cs ps k).wp P st Kc → ps.length = vs.length →
      (∀ (i : Nat) (p : Nat × V) (v : Nat × Value), ps[i]? = some p → vs[i]? = some v → p.1 = v.1 ∧ VOK cx st Hd p.2 v.2) → ys.size = cs.length → (∀ (i : Nat) (c : C) (y : Value), cs[i]? = some c → ys[i]? = some y → COK cx st Hd c y) →
      ∃ cs' ys', Instr.fill place ys vs = some ys' ∧ ys'.size = cs'.length ∧ (∀ (i : Nat) (c : C) (y : Value), cs'[i]? = some c → ys'[i]? = some y → COK cx st Hd c y) ∧ (k cs').wp P st Kc
  | [], [], cs, ys, k, Kc, hm, hl, hp, hs, hc => ⟨cs, ys, rfl, hs, hc, hm⟩
  | [], _ :: _, cs, ys, k, Kc, hm, hl, hp, hs, hc => by simp at hl
  | _ :: _, [], cs, ys, k, Kc, hm, hl, hp, hs, hc => by simp at hl
  | (i, v) :: ps, (i', y) :: vs, cs, ys, k, Kc, hm, hl, hp, hs, hc => by
    obtain ⟨h1, h2⟩ := hp 0 _ _ rfl rfl
    simp only [] at h1 h2
    subst h1
    simp only [fillC] at hm
    split at hm
    · rename_i off m g xs hf hx
      obtain ⟨⟨hxl, hle⟩, hm1⟩ := hm
      obtain ⟨k1, k2⟩ := cells_ok h2 hx
      obtain ⟨c1, g1, g2, g3⟩ := fill_one (place := place) (i := i) (off := off) (m := m) (v := y) (rest := vs) (cells := ys) (hplace _ _ _ _ hf) (by omega) (by omega)
      obtain ⟨cs', ys', j1, j2, j3, j4⟩ := fillC_ok hplace ps vs (spliceC cs off xs) c1 k Kc hm1 (by simpa using hl) (fun i p v a b => hp (i + 1) p v (by simpa using a) (by simpa using b)) (by rw [g2, spliceC_length]; exact hs) (fun j c z hj hz => by
        rw [spliceC_get] at hj
        rw [g3] at hz
        by_cases hin : off ≤ j ∧ j < off + m
        · rw [if_pos (by omega)] at hj
          rw [if_pos hin] at hz
          have := k2 _ c hj
          rw [Array.getD_eq_getD_getElem?, hz] at this
          exact this
        · rw [if_neg (by omega)] at hj
          rw [if_neg hin] at hz
          exact hc j c z hj hz)
      exact ⟨cs', ys', g1.trans j1, j2, j3, j4⟩
    · exact hm.elim

theorem zeroC_get : ∀ (z : List T) (i : Nat), (zeroC z)[i]? = (z[i]?).map fun | .v x => C.v x | _ => C.n
  | [], i => by simp [zeroC]
  | t :: ts, 0 => by cases t <;> simp [zeroC]
  | t :: ts, i + 1 => by
    have := zeroC_get ts i
    cases t <;> simp [zeroC, this]

theorem zeroC_length : ∀ (z : List T), (zeroC z).length = z.length
  | [] => rfl
  | t :: ts => by cases t <;> simp [zeroC, zeroC_length ts]

theorem zeroTs_cells : ∀ {ks : List (Option Nat)} {vs : List Value} {ts : List T}, zeroTs ks vs = some ts → ∀ (i : Nat) (c : C) (y : Value), (zeroC ts)[i]? = some c → vs[i]? = some y → COK cx st Hd c y
  | [], [], ts, h => by simp [zeroTs] at h; subst h; exact fun i c y h => by simp [zeroC] at h
  | [], _ :: _, ts, h => by simp [zeroTs] at h
  | none :: ks, [], ts, h => by simp [zeroTs] at h
  | some m :: ks, [], ts, h => by simp [zeroTs] at h
  | none :: ks, v :: vs, ts, h => by
    simp only [zeroTs] at h
    cases h1 : zeroTs ks vs with
    | none => simp [h1] at h
    | some ts' =>
      simp only [h1, Option.map_some, Option.some.injEq] at h
      subst h
      intro i c y hc hy
      cases i with
      | zero => simp [zeroC] at hc hy; subst hc; subst hy; exact .v _
      | succ i => exact zeroTs_cells h1 i c y (by simpa [zeroC] using hc) (by simpa using hy)
  | some m :: ks, v :: vs, ts, h => by
    simp only [zeroTs] at h
    split at h
    · rename_i hn
      have hv := isNilS_ok hn
      subst hv
      cases h1 : zeroTs ks vs with
      | none => simp [h1] at h
      | some ts' =>
        simp only [h1, Option.map_some, Option.some.injEq] at h
        subst h
        intro i c y hc hy
        cases i with
        | zero => simp [zeroC] at hc hy; subst hc; subst hy; exact .n
        | succ i => exact zeroTs_cells h1 i c y (by simpa [zeroC] using hc) (by simpa using hy)
    · simp at h

theorem mapM_places : ∀ (fs : List Field) (w : World), (∀ f, f ∈ fs → ∃ m, szOf P f.type = some m) → ∃ ps : List (Nat × Nat), (fs.mapM fun (f : Field) => (do pure (f.offset, ← sizeOf f.type) : Sem (Nat × Nat))).run P w = .ok ps w ∧ ∀ (i : Nat) (f : Field), fs[i]? = some f → ∃ m, szOf P f.type = some m ∧ ps[i]? = some (f.offset, m)
  | [], w, h => ⟨[], by simp, fun i f hf => by simp at hf⟩
  | f :: fs, w, h => by
    obtain ⟨m, hm⟩ := h f (by simp)
    obtain ⟨ps, h1, h2⟩ := mapM_places fs w (fun f hf => h f (by simp [hf]))
    refine ⟨(f.offset, m) :: ps, ?_, fun i g hg => ?_⟩
    · simp only [List.mapM_cons, Sem.run_bind, size_run hm, Result.andThen_ok, Sem.run_pure]
      rw [h1]; rfl
    · cases i with
      | zero => simp at hg; subst hg; exact ⟨m, hm, rfl⟩
      | succ i => simpa using h2 i g (by simpa using hg)

theorem kinds_sized : ∀ {N : Nat} {t : TypeId} {ks : List (Option Nat)}, kinds P N t = some ks → ∃ m, szOf P t = some m
  | 0, t, ks, h => by simp [kinds] at h
  | N + 1, t, ks, h => by
    unfold kinds at h
    cases hi : P.info? t with
    | none => simp [Program.underlying, hi] at h
    | some i => exact ⟨i.size, by simp [szOf, hi]⟩

theorem mapM_some_mem {α β : Type} {f : α → Option β} : ∀ {l : List α} {r : List β} {x : α}, l.mapM f = some r → x ∈ l → ∃ y, f x = some y
  | [], r, x, h, hx => by simp at hx
  | a :: l, r, x, h, hx => by
    rw [List.mapM_cons] at h
    cases h1 : f a with
    | none => simp [h1] at h
    | some y =>
      cases h2 : l.mapM f with
      | none => simp [h1, h2] at h
      | some ys =>
        rcases List.mem_cons.1 hx with rfl | hx
        · exact ⟨y, h1⟩
        · exact mapM_some_mem h2 hx

theorem kinds_struct {N : Nat} {t : TypeId} {ks : List (Option Nat)} (h : kinds P N t = some ks) (hs : isStruct P t = true) : ∃ fs, P.underlying t = some (.struct fs) ∧ ∀ f, f ∈ fs.toList → ∃ m, szOf P f.type = some m := by
  cases N with
  | zero => simp [kinds] at h
  | succ N =>
  unfold kinds at h
  cases hu : P.underlying t with
  | none => simp [hu] at h
  | some u =>
  rw [hu] at h
  cases u <;> simp only [] at h <;> try (simp [isStruct, aggOf, hu] at hs; done)
  case struct fs =>
    refine ⟨fs, rfl, fun f hf => ?_⟩
    cases hm : fs.toList.mapM fun (f : Field) => kinds P N f.type with
    | none => simp [hm] at h
    | some kss =>
      obtain ⟨ks', h1⟩ := mapM_some_mem hm hf
      exact kinds_sized h1
  all_goals simp at h

theorem op_build (h : Rel cx n st Hd a w) (hd : ∀ t, o.dst = some t → t < n) {t : TypeId} {parts : Array (Nat × Operand)} (ho : o.op = .build t parts) (hm : (opM P md o).wp P st Kc)
    (hK : ∀ ws Hd' a' w', Kc ws → Rel cx n (app ws st) Hd' a' w' → KC a' w') : o.wp P a w KC Q := by
  simp only [opM, ho] at hm
  split at hm
  rotate_left
  · exact hm.elim
  rename_i z hst hz
  have hz0 := hz
  unfold zeroOf at hz0
  cases hi : P.info? t with
  | none => simp [hi] at hz0
  | some i =>
  simp only [hi] at hz0
  split at hz0
  rotate_left
  · simp at hz0
  rename_i zv ks hzv hks
  split at hz0
  rotate_left
  · simp at hz0
  rename_i hsz
  obtain ⟨fs, hu, hfs⟩ := kinds_struct hks hst
  obtain ⟨vs, hvl, hvs, hm1⟩ := getPs_ok h hm
  obtain ⟨ps, hp1, hp2⟩ := mapM_places fs.toList w hfs
  have hlen : z.length = zv.cells.size := by
    have := (zeroTs_ok (cx := cx) hz0).1
    simpa using this
  obtain ⟨cs', ys', j1, j2, j3, j4⟩ := fillC_ok (cx := cx) (st := st) (Hd := Hd) (t := t) (place := (ps.toArray[·]?)) (fun f off m g hf => by
      obtain ⟨fs', x, k1, k2, rfl, k4, k5, k6⟩ := fieldOf_spec hf
      rw [hu] at k1
      obtain rfl := TypeDesc.struct.inj (Option.some.inj k1)
      obtain ⟨m', q1, q2⟩ := hp2 f x (by simpa using k2)
      rw [k4] at q1
      obtain rfl := Option.some.inj q1
      simpa using q2) vs (parts.toList.map fun x => (x.1, a.eval x.2)) (zeroC z) zv.cells _ Kc hm1 (by simpa using hvl) (fun j p v hp hv => by
      rw [List.getElem?_map] at hv
      cases hx : parts.toList[j]? with
      | none => simp [hx] at hv
      | some x =>
        rw [hx] at hv
        simp only [Option.map_some, Option.some.injEq] at hv
        subst hv
        exact hvs j p x hp hx) (by rw [zeroC_length]; exact hlen.symm) (fun j c y hc hy => zeroTs_cells hz0 j c y hc (by simpa using hy))
  refine put_wp h hd (y := .agg ys') ?_ (.a _ _ j2 j3) j4 hK
  have hlist : (parts.map (fun (x : Nat × Operand) => (x.1, a.eval x.2))).toList = parts.toList.map fun x => (x.1, a.eval x.2) := by simp
  have hb : (Instr.build t (parts.map fun (x : Nat × Operand) => (x.1, a.eval x.2))).run P w = .ok (.agg ys') w := by
    simp only [Instr.build, Sem.run_bind, zeroValue, typeInfo, run_program, hi, hzv, Sem.run_pure, Result.andThen_ok, run_underlying hu]
    rw [Array.mapM_eq_mapM_toList]
    simp only [map_eq_pure_bind, Sem.run_bind, hp1, Result.andThen_ok, Sem.run_pure]
    rw [hlist]
    rw [j1]
    rfl
  simp only [execOp, ho, Sem.run_bind]
  rw [show (parts.map fun x => match x with | (i, x) => (i, a.eval x)) = parts.map (fun (x : Nat × Operand) => (x.1, a.eval x.2)) from rfl, hb]
  rfl

end
end Go.Abs

namespace Go.Abs
open Go

theorem setCellsW_eq : ∀ (vs : List Value) (w : World) (b o : Nat), setCellsW w b o vs = w.setCells b o vs
  | [], w, b, o => rfl
  | v :: vs, w, b, o => by rw [setCellsW, World.setCells, setCellsW_eq vs]

theorem setCellsW_block : ∀ (vs : List Value) (w : World) (b o : Nat) (c : Array Value) (E : TypeId), w.heap[b]? = some (.cells c E (0, 0)) →
    ∃ c', (setCellsW w b o vs).heap[b]? = some (.cells c' E (0, 0)) ∧ c'.size = c.size ∧ (∀ j, j < o ∨ o + vs.length ≤ j → c'[j]? = c[j]?) ∧ (∀ j, o + j < c.size → j < vs.length → c'[o + j]? = vs[j]?)
  | [], w, b, o, c, E, h => ⟨c, h, rfl, fun j _ => rfl, fun j _ h => by simp at h⟩
  | v :: vs, w, b, o, c, E, h => by
    obtain ⟨c', h1, h2, h3, h4⟩ := setCellsW_block vs (w.setCell ⟨b, o, none⟩ v) b (o + 1) (c.setIfInBounds o v) E (setCell_block_same rfl h)
    refine ⟨c', h1, by simpa using h2, fun j hj => ?_, fun j hj hl => ?_⟩
    · simp only [List.length_cons] at hj
      rw [h3 j (by omega), Array.getElem?_setIfInBounds_ne (by omega)]
    · cases j with
      | zero =>
        rw [Nat.add_zero, h3 o (by omega)]
        simp at hj ⊢
        rw [Array.getElem?_setIfInBounds_self_of_lt hj]
      | succ j =>
        simp only [List.length_cons] at hl
        rw [show o + (j + 1) = o + 1 + j by omega, h4 j (by simp; omega) (by omega)]
        rfl

/-- where an append's result lies, and what is there -/
theorem append_mem {P : Program} {w : World} {t tx ty e : TypeId} {i : TypeInfo} {z : Value} (ht : P.underlying t = some (.slice e)) (hi : P.info? e = some i) (hz : i.zero = some z) (hzs : z.cells.size = i.size)
    {a : Option Addr} {len cap b o : Nat} (hl : len ≤ cap) (hrow : cap ≠ 0 → a = some ⟨b, o, none⟩ ∧ ∃ c E, w.heap[b]? = some (.cells c E (0, 0)) ∧ o + cap * i.size ≤ c.size)
    {x : Value} {m : Nat} {vals : List Value} (hs : Src P i.size tx x m vals w) (hbig : (len + m) * i.bytes ≤ 140737488355328) (h63 : len + m ≤ 140737488355328) :
    ∃ (h0 : Hdr) (a' : Option Addr) (w' : World), (Builtin.append_ #[t, tx] ty #[.slice a len cap, x]).run P w = .ok (.slice a' (len + m) h0.cap) w' ∧ (h0.cap ≠ 0 → a' = some ⟨h0.b, h0.o, none⟩) ∧ len + m ≤ h0.cap ∧
      w.heap.size ≤ w'.heap.size ∧ (∀ b', b' < w.heap.size → b' ≠ h0.b → w'.heap[b']? = w.heap[b']?) ∧ (h0.cap ≠ 0 → (h0.b = b ∧ cap ≠ 0) ∨ (w.heap.size ≤ h0.b ∧ h0.b < w'.heap.size)) ∧ (h0.cap = 0 → w.heap.size ≤ h0.b ∨ w' = w) ∧
      (h0.cap ≠ 0 → ∃ c' E, w'.heap[h0.b]? = some (.cells c' E (0, 0)) ∧ h0.o + h0.cap * i.size ≤ c'.size ∧ (∀ j c E, j < len * i.size → w.heap[b]? = some (.cells c E (0, 0)) → c'[h0.o + j]? = c[o + j]?) ∧ ∀ j, j < vals.length → c'[h0.o + (len * i.size + j)]? = vals[j]?) ∧
      (∀ cx : Cx, Keep cx w → (cap ≠ 0 → cx.w0.heap.size ≤ b ∨ cx.X b) → Keep cx w') := by
  have hvl := hs.newsLen
  by_cases hroom : len + m ≤ cap
  · by_cases hc : cap = 0
    · subst hc
      obtain rfl : len = 0 := by omega
      obtain rfl : m = 0 := by omega
      have hv0 : vals = [] := by apply List.eq_nil_of_length_eq_zero; omega
      subst hv0
      refine ⟨⟨w.heap.size, 0, 0⟩, a, w, ?_, fun h => absurd rfl h, Nat.le_refl _, Nat.le_refl _, fun _ _ _ => rfl, fun h => absurd rfl h, fun _ => .inr rfl, fun h => absurd rfl h, fun _ h _ => h⟩
      rcases hs.kind with ⟨e', hk⟩ | hk <;> cases a <;> simp [Builtin.append_, run_underlying ht, run_underlying hk, sizeOf, typeInfo, hi, hs.len, hs.cells, storeCells]
    · obtain ⟨rfl, c, E, h1, h2⟩ := hrow hc
      have hfit : o + len * i.size + vals.length ≤ c.size := by
        have : (len + m) * i.size ≤ cap * i.size := Nat.mul_le_mul_right _ hroom
        rw [Nat.add_mul] at this
        omega
      have hblt : b < w.heap.size := by rw [Array.getElem?_eq_some_iff] at h1; exact h1.1
      obtain ⟨c', k1, k2, k3, k4⟩ := setCellsW_block vals w b (o + len * i.size) c E h1
      obtain ⟨f1, f2, f3, f4⟩ := setCellsW_frame vals w b (o + len * i.size)
      refine ⟨⟨b, o, cap⟩, _, setCellsW w b (o + len * i.size) vals, ?_, fun _ => rfl, hroom, by rw [f4]; exact Nat.le_refl _, fun b' _ hne => setCellsW_heap _ _ _ _ _ hne, fun _ => .inl ⟨rfl, hc⟩, fun h => absurd h hc, fun _ => ⟨c', E, k1, by rw [k2]; exact h2, fun j c2 E2 hj hc2 => ?_, fun j hj => ?_⟩, fun cx hk hb => hk.setCells (hb hc)⟩
      · rw [setCellsW_eq]
        exact run_append_room_src w t tx ty e i ht hi b o len cap x m vals hs hroom (fun j hj => by simp [World.cell?, h1]; omega) (fun j hj => by simp [World.frozen?, h1])
      · rw [h1] at hc2
        obtain ⟨rfl, _, _⟩ := Obj.cells.inj (Option.some.inj hc2)
        simp only []
        rw [k3 _ (by omega)]
      · simp only []
        rw [show o + (len * i.size + j) = o + len * i.size + j by omega, k4 j (by omega) hj]
  · have hge := grownCap_ge w (len + m) cap e
    -- the old cells
    have hold : ∃ olds : List Value, olds.length = len * i.size ∧ (Builtin.firstCells i.size len (.slice a len cap)).run P w.drew = .ok olds.toArray w.drew ∧ (∀ j c E, j < len * i.size → w.heap[b]? = some (.cells c E (0, 0)) → olds[j]? = c[o + j]?) := by
      by_cases hc : cap = 0
      · obtain rfl : len = 0 := by omega
        refine ⟨[], by simp, ?_, fun j c E hj => by omega⟩
        cases a with
        | none => exact run_firstCells_none _ _ _ _ _
        | some a => exact run_firstCells_some _ _ _ _ _ _ [] (by simp) (fun j v h => by simp at h)
      · obtain ⟨rfl, c, E, h1, h2⟩ := hrow hc
        have hfit : o + len * i.size ≤ c.size := by
          have : len * i.size ≤ cap * i.size := Nat.mul_le_mul_right _ hl
          omega
        refine ⟨(c.toList.drop o).take (len * i.size), by simp; omega, run_firstCells_some _ _ _ _ _ _ _ (by simp; omega) (fun j v hj => ?_), fun j c2 E2 hj hc2 => ?_⟩
        · have hjl := (List.getElem?_eq_some_iff.1 hj).1
          simp at hjl
          rw [List.getElem?_take_of_lt (by omega), List.getElem?_drop] at hj
          simp only [Array.getElem?_toList] at hj
          have hcv : w.cell? ⟨b, o + j, none⟩ = some v := by simp [World.cell?, h1, hj]
          rw [addr_add]
          exact hcv
        · rw [h1] at hc2
          obtain ⟨rfl, _, _⟩ := Obj.cells.inj (Option.some.inj hc2)
          rw [List.getElem?_take_of_lt (by omega), List.getElem?_drop, Array.getElem?_toList]
    obtain ⟨olds, ho1, ho2, ho3⟩ := hold
    have hrun := run_append_grow_src (P := P) w t tx ty e i z ht hi hz a len cap olds ho2 x m vals hs (by omega) (by omega) (growslice_fits (by omega) hbig)
    refine ⟨⟨w.heap.size, 0, grownCap w (len + m) cap e⟩, _, _, hrun, fun _ => rfl, hge, by simp, fun b' hb' _ => ?_, fun _ => .inr ⟨Nat.le_refl _, by simp⟩, fun _ => .inl (Nat.le_refl _), fun _ => ⟨(olds ++ vals).toArray ++ Builtin.zeroCells z.cells (grownCap w (len + m) cap e - (len + m)), e, ?_, ?_, fun j c E hj hc => ?_, fun j hj => ?_⟩, fun cx hk _ => hk.drew.alloc _⟩
    · exact alloc_heap_lt (w := w.drew) hb'
    · exact alloc_heap_new w.drew _
    · simp only [Array.size_append, List.size_toArray, List.length_append, size_zeroCells, hzs, ho1, hvl]
      have : (grownCap w (len + m) cap e) * i.size = (len + m) * i.size + (grownCap w (len + m) cap e - (len + m)) * i.size := by rw [← Nat.add_mul]; congr 1; omega
      rw [Nat.add_mul] at this
      omega
    · simp only [Nat.zero_add]
      rw [Array.getElem?_append_left (by simp; omega), List.getElem?_toArray, List.getElem?_append_left (by omega)]
      exact ho3 j c E hj hc
    · simp only [Nat.zero_add]
      rw [Array.getElem?_append_left (by simp; omega), List.getElem?_toArray, List.getElem?_append_right (by omega), ho1]
      congr 1; omega

end Go.Abs

namespace Go.Abs
open Go

section
variable {P : Program} {md : Nat → Nat → Bool} {cx : Cx} {n : Nat} {st : St} {Hd : K → Path → Hdr} {a : Act} {w : World} {o : Oper} {Kc : Ws → Prop} {KC : Act → World → Prop} {Q : Exit → Act → World → Prop}

/-- elements behind an address -/
theorem src_cells {n : Nat} (hn : n ≠ 0) {tx e' : TypeId} (hk : P.underlying tx = some (.slice e')) (es : List (List T)) (b o : Nat) (g : Nat → Nat → Value) (hsz : ∀ (i : Nat) (e : List T), es[i]? = some e → e.length = n)
    (hc : ∀ (i : Nat) (e : List T) (j : Nat) (t : T), es[i]? = some e → e[j]? = some t → w.cell? ⟨b, o + (i * n + j), none⟩ = some (g i j)) (h1 : ∀ (i : Nat) (e : List T) (j : Nat) (t : T), es[i]? = some e → e[j]? = some t → (g i j).oneCell' = true) (c : Nat) :
    ∃ vals, Src P n tx (.slice (some ⟨b, o, none⟩) es.length c) es.length vals w ∧ ∀ (i : Nat) (e : List T) (j : Nat) (t : T), es[i]? = some e → e[j]? = some t → vals[i * n + j]? = some (g i j) := by
  have hq : ∀ q, q < es.length * n → ∃ e t, es[q / n]? = some e ∧ e[q % n]? = some t := by
    intro q hq
    have h2 : q / n < es.length := Nat.div_lt_of_lt_mul (by rw [Nat.mul_comm]; exact hq)
    have h3 : q % n < n := Nat.mod_lt _ (by omega)
    have h4 := hsz _ _ (List.getElem?_eq_getElem h2)
    exact ⟨_, _, List.getElem?_eq_getElem h2, List.getElem?_eq_getElem (by omega)⟩
  refine ⟨(List.range (es.length * n)).map fun q => g (q / n) (q % n), Src.ofSlice w hk _ _ _ _ (by simp) (fun q v hv => ?_) (fun v hv => ?_), fun i e j t hi hj => ?_⟩
  · rw [List.getElem?_map] at hv
    by_cases hlt : q < es.length * n
    · rw [List.getElem?_range hlt] at hv
      obtain ⟨e, t, h2, h3⟩ := hq q hlt
      simp only [Option.map_some, Option.some.injEq] at hv
      subst hv
      have := hc _ _ _ _ h2 h3
      rw [show q / n * n + q % n = q by rw [Nat.mul_comm]; exact Nat.div_add_mod q n] at this
      rw [addr_add]
      exact this
    · rw [List.getElem?_eq_none (by simpa using hlt)] at hv
      simp at hv
  · obtain ⟨q, hlt, rfl⟩ := List.mem_map.1 hv
    obtain ⟨e, t, h2, h3⟩ := hq q (List.mem_range.1 hlt)
    exact h1 _ _ _ _ h2 h3
  · have hil := (List.getElem?_eq_some_iff.1 hi).1
    have hjl := (List.getElem?_eq_some_iff.1 hj).1
    have h2 := hsz _ _ hi
    have hlt : i * n + j < es.length * n := idx_lt hil (Nat.le_refl _) (by omega)
    rw [List.getElem?_map, List.getElem?_range hlt]
    have h3 : (i * n + j) / n = i := by rw [Nat.mul_comm, Nat.mul_add_div (by omega), Nat.div_eq_of_lt (by omega)]; omega
    have h4 : (i * n + j) % n = j := by rw [Nat.mul_comm, Nat.mul_add_mod, Nat.mod_eq_of_lt (by omega)]
    simp [h3, h4]

theorem src_empty {n : Nat} {tx e' : TypeId} (hk : P.underlying tx = some (.slice e')) (a : Option Addr) (c : Nat) : Src P n tx (.slice a 0 c) 0 [] w := by
  cases a with
  | none => exact Src.ofNil w hk c
  | some a => exact Src.ofSlice w hk a 0 c [] (by simp) (fun j u h => by simp at h) (fun u h => by simp at h)

theorem oneEs_at {es : List (List T)} (h : oneEs es = true) {i j : Nat} {e : List T} {t : T} (hi : es[i]? = some e) (hj : e[j]? = some t) : t.one = true :=
  List.all_eq_true.1 (List.all_eq_true.1 h e (List.mem_of_getElem? hi)) t (List.mem_of_getElem? hj)

theorem scalEs_at {es : List (List T)} (h : scalEs es = true) {i j : Nat} {e : List T} {t : T} (hi : es[i]? = some e) (hj : e[j]? = some t) : t.isV = true :=
  List.all_eq_true.1 (List.all_eq_true.1 h e (List.mem_of_getElem? hi)) t (List.mem_of_getElem? hj)

theorem TOK.oneCell {h : Hdr} {t : T} {y : Value} (hy : TOK cx h t y) (ho : t.one = true) : y.oneCell' = true := by
  cases t with
  | v x => cases hy; exact ho
  | d => simp [T.one] at ho
  | s own z zs =>
    cases own with
    | true => obtain ⟨a, rfl, _⟩ := hy; rfl
    | false => obtain ⟨a, cap, _, _, _, rfl, _⟩ := Bor.inv hy; rfl

theorem notOwnV {t : T} (h : t.isV = true) : ∀ z zs, t ≠ .s true z zs := by
  rintro z zs rfl; simp [T.isV] at h

/-- what an append takes in -/
theorem src_ok (h : Rel cx n st Hd a w) {m : Nat} (hm0 : m ≠ 0) {tx e' : TypeId} (hk : P.underlying tx = some (.slice e')) {v : V} {y : Value} (hv : VOK cx st Hd v y) {f : Ws → List (List T) → M} (hm : (srcM m v f).wp P st Kc) :
    ∃ (ov : Ws) (news : List (List T)) (vals : List Value) (g : Path → Hdr), Src P m tx y news.length vals w ∧
      (∀ (x : Nat) (e : List T), news[x]? = some e → e.length = m ∧ ∀ (j : Nat) (t : T), e[j]? = some t → ∃ u, vals[x * m + j]? = some u ∧ TOK cx (g [(x, j)]) t u) ∧
      ((ov = [] ∧ ∀ (x : Nat) (e : List T), news[x]? = some e → ∀ (y : Nat) (t : T), e[y]? = some t → ∀ z zs, t ≠ .s true z zs) ∨ ∃ k e, ov = [(.k k, .gone)] ∧ st (.k k) = .e e ∧ e.sz = m ∧ news = e.es ∧ g = Hd k) ∧ (f ov news).wp P st Kc := by
  unfold srcM at hm
  split at hm
  · rw [nil_inv hv]
    exact ⟨[], [], [], fun _ => ⟨0, 0, 0⟩, src_empty hk _ _, fun x e h => by simp at h, .inl ⟨rfl, fun x e h => by simp at h⟩, hm⟩
  · rename_i sz es
    obtain ⟨⟨h1, h2⟩, hm⟩ := hm
    cases hv with | c _ _ hc => cases hc with | b _ _ _ hb =>
    cases hb with
    | mk a' cap _ _ b o g hl hsz ha hcell ht =>
    rcases ha with rfl | ⟨rfl, hX⟩
    · exact ⟨[], [], [], fun _ => ⟨0, 0, 0⟩, src_empty hk _ _, fun x e h => by simp at h, .inl ⟨rfl, fun x e h => by simp at h⟩, hm⟩
    · rcases h1 with rfl | rfl
      rotate_left
      · exact ⟨[], [], [], fun _ => ⟨0, 0, 0⟩, src_empty hk _ _, fun x e h => by simp at h, .inl ⟨rfl, fun x e h => by simp at h⟩, hm⟩
      have hcw : ∀ (i : Nat) (e : List T) (j : Nat) (t : T), es[i]? = some e → e[j]? = some t → w.cell? ⟨b, o + (i * sz + j), none⟩ = some (g i j) := by
        intro i e j t hi hj
        have h3 := hcell i e j t hi hj
        have h4 : b < cx.w0.heap.size := by
          apply Classical.byContradiction
          intro hb
          simp [World.cell?, Array.getElem?_eq_none (by omega : cx.w0.heap.size ≤ b)] at h3
        have h5 := h.keep.block b h4 hX
        simp only [World.cell?] at h3 ⊢
        rw [h5]
        exact h3
      have hown : ∀ (x : Nat) (e : List T), es[x]? = some e → ∀ (y : Nat) (t : T), e[y]? = some t → ∀ z zs, t ≠ .s true z zs := by
        rintro x e hx y t hy z zs rfl
        have := ht x e y _ hx hy
        cases this
      obtain ⟨vals, k1, k2⟩ := src_cells (w := w) hm0 hk es b o g hsz hcw (fun i e j t hi hj => by
        have h3 := ht i e j t hi hj
        have h4 := oneEs_at h2 hi hj
        cases h3 with
        | v x => exact h4
        | d x => simp [T.one] at h4
        | s y z zs hb => obtain ⟨a, cap, _, _, _, hE, _⟩ := Bor.inv hb; rw [hE]; rfl) cap
      refine ⟨[], es, vals, fun _ => ⟨0, 0, 0⟩, k1, fun x e hx => ⟨hsz x e hx, fun j t hj => ⟨_, k2 x e j t hx hj, ?_⟩⟩, .inl ⟨rfl, hown⟩, hm⟩
      have h3 := ht x e j t hx hj
      cases h3 with
      | v x => rfl
      | d x => trivial
      | s y z zs hb => exact hb
  · rename_i k ver p off len
    obtain ⟨e, sz, es, he, hver, hr, hm2⟩ := getR_inv hm
    obtain ⟨⟨rfl, hle, h1⟩, hm3⟩ := hm2
    simp only [app, ovl] at he
    cases hv with | c _ _ hc => cases hc with | r _ _ _ _ _ a' cap hkn hlc hvl =>
    obtain ⟨h2, h3⟩ := hvl _ _ _ ⟨e, he, hver, hr, rfl⟩
    have hrow := h.heap.row (HeapOf_some he) hr
    by_cases hlen : ((es.drop off).take len) = []
    · have hl0 : len = 0 := by
        have := congrArg List.length hlen
        simp at this; omega
      subst hl0
      split at hm3
      · rw [hlen] at hm3
        exact ⟨[], [], [], fun _ => ⟨0, 0, 0⟩, src_empty hk _ _, fun x e h => by simp at h, .inl ⟨rfl, fun x e h => by simp at h⟩, hm3⟩
      · obtain ⟨⟨rfl, rfl, hl⟩, hm4⟩ := hm3
        have hes : es = [] := List.eq_nil_of_length_eq_zero hl.symm
        subst hes
        simp only [rowAt, Option.some.injEq, Prod.mk.injEq] at hr
        refine ⟨_, [], [], Hd k, src_empty hk _ _, fun x e h => by simp at h, .inr ⟨k, e, rfl, he, hr.1, hr.2.symm, rfl⟩, hm4⟩
    · have hln : len ≠ 0 := fun h => hlen (by rw [h]; simp)
      obtain ⟨rfl, h5⟩ := h3 (by omega)
      obtain ⟨c, E, k1, k2, k3⟩ := hrow.2 (show (Hd k p).cap ≠ 0 by omega)
      have hlen2 : ((es.drop off).take len).length = len := by simp; omega
      have hget : ∀ (i : Nat) (e : List T), ((es.drop off).take len)[i]? = some e → i < len ∧ es[off + i]? = some e := by
        intro i e hi
        have hil := (List.getElem?_eq_some_iff.1 hi).1
        rw [hlen2] at hil
        rw [List.getElem?_take_of_lt hil, List.getElem?_drop] at hi
        exact ⟨hil, hi⟩
      obtain ⟨vals, j1, j2⟩ := src_cells (w := w) hm0 hk ((es.drop off).take len) (Hd k p).b ((Hd k p).o + off * sz) (fun i j => c.getD ((Hd k p).o + ((off + i) * sz + j)) undef) (fun i e hi => (k3 _ e (hget i e hi).2).1) (fun i e j t hi hj => by
          obtain ⟨u, hu, _⟩ := (k3 _ e (hget i e hi).2).2 j t hj
          simp only [World.cell?, k1]
          rw [show (Hd k p).o + off * sz + (i * sz + j) = (Hd k p).o + ((off + i) * sz + j) by have := Nat.add_mul off i sz; omega, hu, Array.getD_eq_getD_getElem?, hu]
          rfl) (fun i e j t hi hj => by
          obtain ⟨u, hu, hok⟩ := (k3 _ e (hget i e hi).2).2 j t hj
          rw [Array.getD_eq_getD_getElem?, hu]
          refine hok.oneCell ?_
          have h6 := (hget i e hi).2
          exact oneEs_at h1 h6 hj) cap
      rw [hlen2] at j1
      split at hm3
      · rename_i hs
        refine ⟨[], (es.drop off).take len, vals, fun _ => ⟨0, 0, 0⟩, by rw [hlen2]; exact j1, fun x e hx => ⟨(k3 _ e (hget x e hx).2).1, fun j t hj => ?_⟩, .inl ⟨rfl, fun x e hx y t hy => notOwnV (scalEs_at hs (hget x e hx).2 hy)⟩, hm3⟩
        obtain ⟨u, hu, hok⟩ := (k3 _ e (hget x e hx).2).2 j t hj
        refine ⟨_, j2 x e j t hx hj, ?_⟩
        rw [Array.getD_eq_getD_getElem?, hu]
        have h6 := scalEs_at hs (hget x e hx).2 hj
        cases t with
        | v x => exact hok
        | d => trivial
        | s _ _ _ => simp [T.isV] at h6
      · obtain ⟨⟨rfl, rfl, hl⟩, hm4⟩ := hm3
        simp only [rowAt, Option.some.injEq, Prod.mk.injEq] at hr
        obtain ⟨hr1, rfl⟩ := hr
        refine ⟨_, e.es, vals, Hd k, by rw [← hl]; exact j1, fun x e' hx => ?_, .inr ⟨k, e, rfl, he, hr1, rfl, rfl⟩, hm4⟩
        have hx2 : ((e.es.drop 0).take len)[x]? = some e' := by
          rw [List.drop_zero, hl, List.take_length]; exact hx
        obtain ⟨_, hx3⟩ := hget x e' hx2
        refine ⟨(k3 _ e' hx3).1, fun j t hj => ?_⟩
        obtain ⟨u, hu, hok⟩ := (k3 _ e' hx3).2 j t hj
        refine ⟨_, j2 x e' j t hx2 hj, ?_⟩
        rw [Array.getD_eq_getD_getElem?, hu]
        simpa using hok
  · exact hm.elim

end
end Go.Abs

namespace Go.Abs
open Go

section
variable {P : Program} {md : Nat → Nat → Bool} {cx : Cx} {n : Nat} {st : St} {Hd : K → Path → Hdr} {a : Act} {w : World} {o : Oper} {Kc : Ws → Prop} {KC : Act → World → Prop} {Q : Exit → Act → World → Prop}

theorem append_core (h : Rel cx n st Hd a w) {H : Heap} (hH : HeapOK cx H w) {t tx ty el : TypeId} {m by_ : Nat} (hel : elemOf P t = some el) (hs : szOf P el = some m) (hb : bytesOf P el = some by_) (hz : (zeroOf P el).isSome = true)
    {d : Tmp} (hk : st (.k (d, 0)) = .none) {st1 : St} (hfew : Fewer st st1 Hd Hd) {i : Ix} {r : HRow} (hi : H i = some r) (hn : r.sz = m) {off len : Nat} (hl : off + len ≤ r.es.length) {a' : Option Addr} {cap : Nat} (hle : len ≤ cap)
    (hcap : cap ≠ 0 → a' = some ⟨(r.hd []).b, (r.hd []).o + off * m, none⟩ ∧ off + cap ≤ (r.hd []).cap) (hHH : ∀ j s, j ≠ .inl (d, 0) → HeapOf st1 Hd j = some s → H j = some s ∧ j ≠ i)
    {y : Value} {news : List (List T)} {vals : List Value} {g : Path → Hdr} (hsrc : Src P m tx y news.length vals w)
    (hnews : ∀ (x : Nat) (e : List T), news[x]? = some e → e.length = m ∧ ∀ (j : Nat) (t : T), e[j]? = some t → ∃ u, vals[x * m + j]? = some u ∧ TOK cx (g [(x, j)]) t u)
    (hown : (∀ (x : Nat) (e : List T), news[x]? = some e → ∀ (y : Nat) (t : T), e[y]? = some t → ∀ z zs, t ≠ .s true z zs) ∨ ∃ i2 f, H i2 = some f ∧ f.sz = m ∧ news = f.es ∧ g = f.hd ∧ i2 ≠ i ∧ i2 ≠ .inl (d, 0) ∧ HeapOf st1 Hd i2 = none)
    (hbig : (len + news.length) * by_ ≤ 140737488355328) (h63 : len + news.length ≤ 140737488355328) :
    ∃ (z : Value) (w' : World) (hd : Path → Hdr), (Builtin.append_ #[t, tx] ty #[.slice a' len cap, y]).run P w = .ok z w' ∧
      Rel cx n (app [(.k (d, 0), .e ⟨0, m, (r.es.drop off).take len ++ news⟩)] st1) (fun k' => if k' = (d, 0) then hd else Hd k') a w' ∧
      VOK cx (app [(.k (d, 0), .e ⟨0, m, (r.es.drop off).take len ++ news⟩)] st1) (fun k' => if k' = (d, 0) then hd else Hd k') (.c (.r (d, 0) 0 [] 0 (len + news.length))) z := by
  obtain ⟨zt, hzt⟩ := Option.isSome_iff_exists.1 hz
  obtain ⟨inf, zv, g1, g2, g3, g4, g5⟩ := zeroOf_ok (cx := cx) hzt
  have hinf : inf.size = m := by simp [szOf, g1] at hs; exact hs
  have hbi : inf.bytes = by_ := by simp [bytesOf, g1] at hb; exact hb
  have hrow := hH.row hi (show rowAt r.sz r.es [] = some (m, r.es) by simp [rowAt, hn])
  obtain ⟨h0, a1, w', r1, r2, r3, r4, r5, r6, r7, r8, r9⟩ := append_mem (P := P) (w := w) (t := t) (tx := tx) (ty := ty) (elem_run hel) g1 g2 g4 (a := a') (len := len) (cap := cap) (b := (r.hd []).b) (o := (r.hd []).o + off * m) hle (fun hc => by
    obtain ⟨q1, q2⟩ := hcap hc
    obtain ⟨c, E, k1, k2, k3⟩ := hrow.2 (by omega)
    refine ⟨q1, c, E, k1, ?_⟩
    rw [hinf]
    have : (off + cap) * m ≤ (r.hd []).cap * m := Nat.mul_le_mul_right _ q2
    rw [Nat.add_mul] at this
    omega) (x := y) (m := news.length) (vals := vals) (by rw [hinf]; exact hsrc) (by rw [hbi]; exact hbig) h63
  rw [hinf] at r8
  have hlenA : ((r.es.drop off).take len).length = len := by simp; omega
  have happ : HeapOK cx ((HeapOf st1 Hd).set (.inl (d, 0)) (some ⟨m, (r.es.drop off).take len ++ news, appHd h0 off len r.hd g⟩)) w' := by
    have hother : ∀ j, j ≠ .inl (d, 0) → ((HeapOf st1 Hd).set (.inl (d, 0)) (some ⟨m, (r.es.drop off).take len ++ news, appHd h0 off len r.hd g⟩)) j = HeapOf st1 Hd j := fun j hj => Heap.set_ne _ _ hj
    have hgo : ∀ i2 : Ix, (hso : (∀ (x : Nat) (e : List T), news[x]? = some e → ∀ (y : Nat) (t : T), e[y]? = some t → ∀ z zs, t ≠ .s true z zs) ∨ (∃ f, H i2 = some f ∧ f.sz = m ∧ news = f.es ∧ g = f.hd ∧ i2 ≠ i ∧ i2 ≠ .inl (d, 0) ∧ HeapOf st1 Hd i2 = none)) → HeapOK cx ((HeapOf st1 Hd).set (.inl (d, 0)) (some ⟨m, (r.es.drop off).take len ++ news, appHd h0 off len r.hd g⟩)) w' := by
      intro i2 hso
      refine hH.append (i := i) (i2 := i2) (d := .inl (d, 0)) (r := r) (n := m) (off := off) (len := len) (news := news) (g := g) (h0 := h0) h.keep.size hi hn hl ?_ (Heap.set_same _ _ _) ?_ ?_ r4 r3 ?_ r5 ?_ r7
      · rcases hso with hso | ⟨f, q1, q2, q3, q4, q5, q6, q7⟩
        · exact .inl hso
        · exact .inr ⟨f, q1, q2, q3, q4, q5, .inr (by rw [hother _ q6]; exact q7)⟩
      · intro j s hj hs'
        rw [hother j hj] at hs'
        exact hHH j s hj hs'
      · by_cases hdi : i = .inl (d, 0)
        · exact .inl hdi.symm
        · refine .inr ?_
          rw [hother _ hdi]
          cases hx : HeapOf st1 Hd i with
          | none => rfl
          | some s => exact absurd rfl (hHH i s hdi hx).2
      · intro hc
        obtain ⟨c', E, q1, q2, q3, q4⟩ := r8 hc
        refine ⟨c', E, q1, q2, fun x y c E2 hx hy hc2 => ?_, fun x e hx => ⟨(hnews x e hx).1, fun y t hy => ?_⟩⟩
        · have hlt : x * m + y < len * m := idx_lt hx (Nat.le_refl _) hy
          rw [q3 (x * m + y) c E2 hlt hc2]
          congr 1
          have := Nat.add_mul x off m
          omega
        · obtain ⟨u, hu, hok⟩ := (hnews x e hx).2 y t hy
          refine ⟨u, ?_, hok⟩
          have hlt := (List.getElem?_eq_some_iff.1 hu).1
          have := q4 (x * m + y) hlt
          rw [hu] at this
          rw [← this]
          congr 1
          have := Nat.add_mul len x m
          omega
      · intro hc
        rcases r6 hc with ⟨q1, q2⟩ | q
        · exact .inl ⟨q1, by have := (hcap q2).2; omega⟩
        · exact .inr q
    rcases hown with ho | ⟨i2, f, q⟩
    · exact hgo i (.inl ho)
    · exact hgo i2 (.inr ⟨f, q⟩)
  have hkeep : Keep cx w' := r9 cx h.keep (fun hc => (hH.blk _ _ _ _ _ ⟨r, hi, (show rowAt r.sz r.es [] = some (m, r.es) by simp [rowAt, hn]), rfl⟩ (by have := (hcap hc).2; omega)).2)
  have hrel := h.newRoot hfew hk happ hkeep
  refine ⟨_, w', _, r1, hrel, ?_⟩
  refine .c _ _ (.r _ _ _ _ _ _ _ ⟨by rw [app_one_same]; simp, fun e he => by rw [app_one_same] at he; obtain rfl := X.e.inj he; exact Nat.le_refl _⟩ r3 (fun sz es h' hv => ?_))
  obtain ⟨e, q1, _, q3, q4⟩ := hv
  rw [app_one_same] at q1
  obtain rfl := X.e.inj q1
  simp only [rowAt, Option.some.injEq, Prod.mk.injEq] at q3
  obtain ⟨rfl, rfl⟩ := q3
  simp only [if_true, appHd] at q4
  subst q4
  refine ⟨by rw [List.length_append, hlenA]; omega, fun hc => ⟨by rw [r2 hc]; simp, by omega⟩⟩

theorem call_builtinW {c : Call} {b : Builtin} (ho : o.op = .call c) (hc : c.callee = .builtin b) {v : Value} {w' : World} {s : Sem Value} (hb : builtin b c.argTypes o.type (c.args.map fun | .const _ => true | _ => false) (c.args.map a.eval) = (do pure (.value (← s))))
    (hr : s.run P w = .ok v w') : (execOp a.eval o).run P w = .ok (.value v) w' := by
  simp only [execOp, ho]
  simp only [resolve, hc, Sem.run_bind, Sem.run_pure, Result.andThen_ok, invoke]
  refine Eq.trans (congrArg (fun s => Sem.run P s w) hb) ?_
  simp only [Sem.run_bind, hr, Result.andThen_ok, Sem.run_pure]

theorem op_append (h : Rel cx n st Hd a w) (hd : ∀ t, o.dst = some t → t < n) {c : Call} (ho : o.op = .call c) (hc : c.callee = .builtin .append) (hm : (opM P md o).wp P st Kc)
    (hK : ∀ ws Hd' a' w', Kc ws → Rel cx n (app ws st) Hd' a' w' → KC a' w') : o.wp P a w KC Q := by
  simp only [opM, ho, hc] at hm
  cases hds : o.dst with
  | none => simp only [hds] at hm; exact hm.elim
  | some d =>
  simp only [hds] at hm
  split at hm
  rotate_left
  · exact hm.elim
  rename_i sO xO t t' ha ht
  cases hel' : elemOf P t' with
  | none => simp [hel', M.wp] at hm
  | some e' =>
  simp only [hel'] at hm
  obtain ⟨v1, hv1, hm1⟩ := getO_ok h hm
  obtain ⟨v2, hv2, hm2⟩ := getO_ok h hm1
  unfold appendM at hm2
  cases hel : elemOf P t with
  | none => simp [hel, M.wp] at hm2
  | some el =>
  cases hs : szOf P el with
  | none => simp [hel, hs, M.wp] at hm2
  | some m =>
  cases hb : bytesOf P el with
  | none => simp [hel, hs, hb, M.wp] at hm2
  | some by_ =>
  simp only [hel, hs, hb] at hm2
  obtain ⟨hk, ⟨hm0, hz⟩, hm3⟩ := fresh_inv hm2
  obtain ⟨ov, news, vals, g, hsrc, hnews, hov, hm4⟩ := src_ok h hm0 (elem_run hel') hv2 hm3
  have hargs : c.args = #[sO, xO] := by rw [← Array.toArray_toList (xs := c.args), ha]
  have htys : c.argTypes = #[t, t'] := by rw [← Array.toArray_toList (xs := c.argTypes), ht]
  -- what is left behind the source
  have hfew : Fewer st (app ov st) Hd Hd := by
    rcases hov with ⟨rfl, _⟩ | ⟨k, e, rfl, he, _⟩
    · exact Fewer.refl _ _
    · exact fewer_gone he
  have hovk : ∀ (k : K) (e : Ent), app ov st (.k k) = .e e → st (.k k) = .e e ∧ (∀ (k2 : K) (e2 : Ent), ov = [(.k k2, .gone)] → k2 ≠ k) := by
    intro k e he
    rcases hov with ⟨rfl, _⟩ | ⟨k2, e2, rfl, he2, _⟩
    · exact ⟨he, fun k2 e2 h => by simp at h⟩
    · by_cases hkk : k = k2
      · subst hkk; rw [app_one_same] at he; simp at he
      · rw [app_one_ne _ _ (fun e => hkk (Loc.k.inj e))] at he
        refine ⟨he, fun k3 e3 h => ?_⟩
        obtain rfl : k2 = k3 := by simpa using h
        exact Ne.symm hkk
  have fin : ∀ {ws : Ws} {st1 : St} {len : Nat} {es1 : List (List T)} {z : Value} {w' : World} {hd1 : Path → Hdr}, (Builtin.append_ #[t, t'] o.type #[a.eval sO, a.eval xO]).run P w = .ok z w' → app ((.k (d, 0), .e ⟨0, m, es1⟩) :: ws) st = app [(.k (d, 0), .e ⟨0, m, es1⟩)] st1 →
      Rel cx n (app [(.k (d, 0), .e ⟨0, m, es1⟩)] st1) (fun k' => if k' = (d, 0) then hd1 else Hd k') a w' → VOK cx (app [(.k (d, 0), .e ⟨0, m, es1⟩)] st1) (fun k' => if k' = (d, 0) then hd1 else Hd k') (.c (.r (d, 0) 0 [] 0 len)) z →
      Kc ((.s d, .v (.c (.r (d, 0) 0 [] 0 len))) :: (.k (d, 0), .e ⟨0, m, es1⟩) :: ws) → o.wp P a w KC Q := by
    intro ws st1 len es1 z w' hd1 hrun hst hrel hv hkc
    refine root_wp hrel hds hd (ws := (.k (d, 0), .e ⟨0, m, es1⟩) :: ws) hst (y := z) ?_ hv hkc hK
    refine call_builtinW ho hc (s := Builtin.append_ c.argTypes o.type (c.args.map a.eval)) rfl ?_
    rw [hargs, htys]
    simpa using hrun
  have hnone : ∀ (i2 : Ix) (k2 : K) (e2 : Ent), ov = [(.k k2, .gone)] → st (.k k2) = .e e2 → i2 = Sum.inl k2 → i2 ≠ .inl (d, 0) := by
    rintro i2 k2 e2 _ he rfl hcon
    rw [Sum.inl.inj hcon, hk] at he
    simp at he
  split at hm4
  · -- onto nothing
    obtain ⟨⟨q1, q2⟩, hm5⟩ := hm4
    have hy1 := nil_inv hv1
    have hnoD : HeapOf (app ov st) Hd (.inl (d, 0)) = none := by
      cases hx : app ov st (.k (d, 0)) with
      | e e => have := (hovk _ _ hx).1; rw [hk] at this; simp at this
      | none => simp [HeapOf, hx]
      | gone => simp [HeapOf, hx]
      | v v => simp [HeapOf, hx]
    obtain ⟨z, w', hd1, k1, k2, k3⟩ := append_core (a := a) (tx := t') (ty := o.type) h (h.heap.empty h.keep.size (.inl (d, 0)) m) hel hs hb hz hk hfew (i := .inl (d, 0)) (Heap.set_same _ _ _) rfl (off := 0) (len := 0) (by simp) (a' := none) (cap := 0) (Nat.le_refl _) (fun h => absurd rfl h) (fun j s hj hs' => by
        refine ⟨?_, hj⟩
        rw [Heap.set_ne _ _ hj]
        cases j with
        | inr x => simp [HeapOf] at hs'
        | inl k' =>
          cases hx : app ov st (.k k') with
          | e e =>
            rw [HeapOf_some hx] at hs'
            rw [HeapOf_some (hovk _ _ hx).1]
            exact hs'
          | none => simp [HeapOf, hx] at hs'
          | gone => simp [HeapOf, hx] at hs'
          | v v => simp [HeapOf, hx] at hs') hsrc hnews (by
        rcases hov with ⟨_, ho1⟩ | ⟨k, e, rfl, he, he2, he3, he4⟩
        · exact .inl ho1
        · have hne := hnone (.inl k) k e rfl he rfl
          exact .inr ⟨.inl k, _, by rw [Heap.set_ne _ _ hne]; exact HeapOf_some he, he2, he3, he4, hne, hne, by simp [HeapOf, app_one_same]⟩) (by simpa using q1) (by simpa using q2)
    refine fin (ws := ov) (st1 := app ov st) (es1 := news) (len := news.length) (z := z) (w' := w') (hd1 := hd1) (by rw [hy1]; exact k1) (app_cons _ _ _ _) (by simpa using k2) (by simpa using k3) hm5
  · rename_i k ver p off len
    obtain ⟨e, sz, es, he, hver, hr, hm5⟩ := getR_inv hm4
    obtain ⟨⟨rfl, hle2, q1, q2⟩, hm6⟩ := hm5
    obtain ⟨he1, hkne⟩ := hovk k e he
    cases hv1 with | c _ _ hc1 => 
    generalize hyy : a.eval sO = yy at hc1
    cases hc1 with | r _ _ _ _ _ a' cap hkn hlc hvl =>
    obtain ⟨h2, h3⟩ := hvl _ _ _ ⟨e, he1, hver, hr, rfl⟩
    have hkd : k ≠ (d, 0) := fun h => by rw [h, hk] at he1; simp at he1
    cases p with
    | nil =>
      simp only [rowAt, Option.some.injEq, Prod.mk.injEq] at hr
      obtain ⟨hr1, rfl⟩ := hr
      have hst1 : app [(.k k, .gone)] (app ov st) (.k k) = .gone := app_one_same _ _ _
      obtain ⟨z, w', hd1, k1, k2, k3⟩ := append_core (a := a) (tx := t') (ty := o.type) h h.heap hel hs hb hz hk (hfew.trans (fewer_gone he)) (i := .inl k) (HeapOf_some he1) hr1 (off := off) (len := len) hle2 (a' := a') (cap := cap) hlc h3 (fun j s hj hs' => by
          cases j with
          | inr x => simp [HeapOf] at hs'
          | inl k' =>
            by_cases hkk : k' = k
            · subst hkk; simp [HeapOf, hst1] at hs'
            · refine ⟨?_, fun h => hkk (Sum.inl.inj h)⟩
              have h7 : app [(.k k, .gone)] (app ov st) (.k k') = app ov st (.k k') := app_one_ne _ _ (fun e => hkk (Loc.k.inj e))
              cases hx : app ov st (.k k') with
              | e e =>
                rw [HeapOf_some (h7.trans hx)] at hs'
                rw [HeapOf_some (hovk _ _ hx).1]
                exact hs'
              | none => simp [HeapOf, h7, hx] at hs'
              | gone => simp [HeapOf, h7, hx] at hs'
              | v v => simp [HeapOf, h7, hx] at hs') hsrc hnews (by
          rcases hov with ⟨_, ho1⟩ | ⟨k2, e2, rfl, he2, he3, he4, he5⟩
          · exact .inl ho1
          · have hne := hnone (.inl k2) k2 e2 rfl he2 rfl
            have hk2 := hkne k2 e2 rfl
            refine .inr ⟨.inl k2, _, HeapOf_some he2, he3, he4, he5, fun h => hk2 (Sum.inl.inj h), hne, ?_⟩
            have h7 : app [(.k k, .gone)] (app [(.k k2, .gone)] st) (.k k2) = .gone := by rw [app_one_ne _ _ (fun e => hk2 (Loc.k.inj e)), app_one_same]
            simp [HeapOf, h7]) q1 q2
      refine fin (ws := (.k k, .gone) :: ov) (st1 := app [(.k k, .gone)] (app ov st)) (z := z) (w' := w') (hd1 := hd1) (by rw [hyy]; exact k1) ?_ k2 k3 hm6
      rw [app_cons, app_cons (.k k)]
    | cons x p =>
      obtain ⟨q, a0, b0, hq⟩ := path_split x p
      have hg : gone k (x :: p) e = (.k k, .e { e with es := setAt e.es q e.sz a0 b0 .d }) := by
        simp only [gone, holed]
        have h1 : (x :: p).dropLast = q := by rw [hq]; simp
        have h2 : (x :: p).getLast? = some (a0, b0) := by rw [hq]; simp
        simp only [h1, h2, Option.getD_some]
      rw [hg] at hm6
      rw [hq] at hr h3
      obtain ⟨s1, r1, hr1, hcell⟩ := rowAt_snoc hr
      have hset : setAt e.es q e.sz a0 b0 .d = setRow e.es q (setCell r1 a0 b0 .d) := by simp [setAt, hr1]
      have hdet := h.heap.detach (i2 := .inr (0, 0)) (HeapOf_some he1) hr1 rfl hcell
      have hst1 : app [(.k k, .e { e with es := setAt e.es q e.sz a0 b0 .d })] (app ov st) (.k k) = .e { e with es := setAt e.es q e.sz a0 b0 .d } := app_one_same _ _ _
      obtain ⟨z, w', hd1, k1, k2, k3⟩ := append_core (a := a) (tx := t') (ty := o.type) (r := ⟨sz, es, fun q' => Hd k (q ++ (a0, b0) :: q')⟩) h hdet hel hs hb hz hk (st1 := app [(.k k, .e { e with es := setAt e.es q e.sz a0 b0 .d })] (app ov st)) (hfew.trans (by rw [hset]; exact fewer_row he (fun p sz es h => hole_row hr1 p sz es h))) (i := .inr (0, 0)) (Heap.set_same _ _ _) rfl (off := off) (len := len) hle2 (a' := a') (cap := cap) hlc h3 (fun j s hj hs' => by
          cases j with
          | inr x => simp [HeapOf] at hs'
          | inl k' =>
            refine ⟨?_, by simp⟩
            rw [Heap.set_ne _ _ (by simp)]
            by_cases hkk : k' = k
            · subst hkk
              rw [HeapOf_some hst1] at hs'
              rw [Heap.set_same, ← hs', hset]
            · rw [Heap.set_ne _ _ (fun h => hkk (Sum.inl.inj h))]
              have h7 : app [(.k k, .e { e with es := setAt e.es q e.sz a0 b0 .d })] (app ov st) (.k k') = app ov st (.k k') := app_one_ne _ _ (fun e => hkk (Loc.k.inj e))
              cases hx : app ov st (.k k') with
              | e e =>
                rw [HeapOf_some (h7.trans hx)] at hs'
                rw [HeapOf_some (hovk _ _ hx).1]
                exact hs'
              | none => simp [HeapOf, h7, hx] at hs'
              | gone => simp [HeapOf, h7, hx] at hs'
              | v v => simp [HeapOf, h7, hx] at hs') hsrc hnews (by
          rcases hov with ⟨_, ho1⟩ | ⟨k2, e2, rfl, he2, he3, he4, he5⟩
          · exact .inl ho1
          · have hne := hnone (.inl k2) k2 e2 rfl he2 rfl
            have hk2 := hkne k2 e2 rfl
            refine .inr ⟨.inl k2, _, by rw [Heap.set_ne _ _ (by simp), Heap.set_ne _ _ (fun h => hk2 (Sum.inl.inj h))]; exact HeapOf_some he2, he3, he4, he5, by simp, hne, ?_⟩
            have h7 : app [(.k k, .e { e with es := setAt e.es q e.sz a0 b0 .d })] (app [(.k k2, .gone)] st) (.k k2) = .gone := by rw [app_one_ne _ _ (fun e => hk2 (Loc.k.inj e)), app_one_same]
            simp [HeapOf, h7]) q1 q2
      refine fin (ws := (.k k, .e { e with es := setAt e.es q e.sz a0 b0 .d }) :: ov) (st1 := app [(.k k, .e { e with es := setAt e.es q e.sz a0 b0 .d })] (app ov st)) (z := z) (w' := w') (hd1 := hd1) (by rw [hyy]; exact k1) ?_ k2 k3 hm6
      rw [app_cons, app_cons (.k k)]
  · exact hm4.elim

end
end Go.Abs

namespace Go.Abs
open Go

theorem ownEs_at : ∀ {es : List (List T)} (h : ownEs es = true) {i j : Nat} {e : List T} {t : T} (hi : es[i]? = some e) (hj : e[j]? = some t), ownT t = true
  | [], h, i, j, e, t, hi, hj => by simp at hi
  | e0 :: es, h, i, j, e, t, hi, hj => by
    simp only [ownEs, Bool.and_eq_true] at h
    cases i with
    | succ i => exact ownEs_at h.2 (by simpa using hi) hj
    | zero =>
      simp at hi
      subst hi
      have : ∀ {l : List T}, ownE l = true → ∀ {j : Nat} {t : T}, l[j]? = some t → ownT t = true := by
        intro l
        induction l with
        | nil => intro _ j t h; simp at h
        | cons a l ih =>
          intro h j t hj
          simp only [ownE, Bool.and_eq_true] at h
          cases j with
          | zero => simp at hj; subst hj; exact h.1
          | succ j => exact ih h.2 (by simpa using hj)
      exact this h.1 hj

theorem ownE_at {l : List T} (h : ownE l = true) {j : Nat} {t : T} (hj : l[j]? = some t) : ownT t = true :=
  ownEs_at (es := [l]) (by simp [ownEs, h]) (i := 0) rfl hj

theorem ownEs_row {es : List (List T)} {p : Path} {sz sz' : Nat} {es' : List (List T)} (h : ownEs es = true) (hr : rowAt sz es p = some (sz', es')) : ownEs es' = true := by
  induction p generalizing sz es with
  | nil => simp only [rowAt, Option.some.injEq, Prod.mk.injEq] at hr; rw [← hr.2]; exact h
  | cons x p ih =>
    obtain ⟨i, j⟩ := x
    simp only [rowAt] at hr
    cases hc : cellAt es i j with
    | none => simp [hc] at hr
    | some t =>
      rw [hc] at hr
      unfold cellAt at hc
      cases he : es[i]? with
      | none => simp [he] at hc
      | some e =>
        rw [he] at hc
        have ho := ownEs_at h he hc
        cases t with
        | v x => simp at hr
        | d => simp at hr
        | s own z zs =>
          cases own with
          | false => simp [ownT] at ho
          | true =>
            simp only [] at hr
            simp only [ownT, Bool.true_and] at ho
            exact ih ho hr

theorem TOK.rebase {cx cx' : Cx} {h : Hdr} {t : T} {y : Value} (ho : ownT t = true) (hy : TOK cx h t y) : TOK cx' h t y := by
  cases t with
  | v x => exact hy
  | d => trivial
  | s own z zs =>
    cases own with
    | true => exact hy
    | false => simp [ownT] at ho

theorem HeapOK.rebase {cx cx' : Cx} {H : Heap} {w : World} (hk : HeapOK cx H w) (ho : ∀ i r, H i = some r → ownEs r.es = true)
    (hb : ∀ i p sz es h, H.at i p sz es h → h.cap ≠ 0 → cx'.w0.heap.size ≤ h.b ∨ cx'.X h.b) : HeapOK cx' H w := by
  refine ⟨fun i r p sz es hi hr => ?_, hk.inj, fun i p sz es h hat hc => ⟨(hk.blk i p sz es h hat hc).1, hb i p sz es h hat hc⟩⟩
  obtain ⟨h1, h2⟩ := hk.rows i r p sz es hi hr
  refine ⟨h1, fun hc => ?_⟩
  obtain ⟨c, E, k1, k2, k3⟩ := h2 hc
  refine ⟨c, E, k1, k2, fun i' e he => ⟨(k3 i' e he).1, fun j t ht => ?_⟩⟩
  obtain ⟨y, hy, hok⟩ := (k3 i' e he).2 j t ht
  exact ⟨y, hy, hok.rebase (ownEs_at (ownEs_row (ho i r hi) hr) he ht)⟩

theorem HeapOK.reindex {cx : Cx} {H H' : Heap} {w : World} (hk : HeapOK cx H w) (φ : Ix → Ix) (h : ∀ i r, H' i = some r → H (φ i) = some r) (hinj : ∀ i j r s, H' i = some r → H' j = some s → φ i = φ j → i = j) : HeapOK cx H' w := by
  have key : ∀ {i p sz es g}, Heap.at H' i p sz es g → H.at (φ i) p sz es g := by
    rintro i p sz es g ⟨r, hi, hr, hh⟩; exact ⟨r, h i r hi, hr, hh⟩
  refine ⟨fun i r p sz es hi hr => hk.rows _ r p sz es (h i r hi) hr, fun i p sz es g i' p' sz' es' g' h1 h2 hc hc' hb => ?_, fun i p sz es g h1 => hk.blk _ _ _ _ _ (key h1)⟩
  have := hk.inj _ _ _ _ _ _ _ _ _ _ (key h1) (key h2) hc hc' hb
  obtain ⟨r, hr, _⟩ := h1
  obtain ⟨s, hs, _⟩ := h2
  exact ⟨hinj i i' r s hr hs this.1, this.2⟩

theorem HeapOK.moved {cx : Cx} {H : Heap} {w w' : World} (hk : HeapOK cx H w) (hs : w.heap.size ≤ w'.heap.size) (hw : ∀ i p sz es h, H.at i p sz es h → h.cap ≠ 0 → w'.heap[h.b]? = w.heap[h.b]?) : HeapOK cx H w' :=
  ⟨fun i r p sz es hi hr => (hk.rows i r p sz es hi hr).congr (fun hc => hw _ _ _ _ _ ⟨r, hi, hr, rfl⟩ hc) (fun _ _ _ _ _ => rfl), hk.inj, fun i p sz es h hat hc => ⟨by have := (hk.blk i p sz es h hat hc).1; omega, (hk.blk i p sz es h hat hc).2⟩⟩

theorem HeapOK.union {cx : Cx} {A B H : Heap} {w : World} (ha : HeapOK cx A w) (hb : HeapOK cx B w) (h : ∀ i r, H i = some r → A i = some r ∨ B i = some r)
    (hd : ∀ i p sz es g i' p' sz' es' g', A.at i p sz es g → B.at i' p' sz' es' g' → g.cap ≠ 0 → g'.cap ≠ 0 → g.b ≠ g'.b) : HeapOK cx H w := by
  have key : ∀ {i p sz es g}, Heap.at H i p sz es g → A.at i p sz es g ∨ B.at i p sz es g := by
    rintro i p sz es g ⟨r, hi, hr, hh⟩
    exact (h i r hi).imp (fun h => ⟨r, h, hr, hh⟩) (fun h => ⟨r, h, hr, hh⟩)
  refine ⟨fun i r p sz es hi hr => (h i r hi).elim (fun h => ha.rows _ r p sz es h hr) (fun h => hb.rows _ r p sz es h hr), fun i p sz es g i' p' sz' es' g' h1 h2 hc hc' hE => ?_, fun i p sz es g h1 => (key h1).elim (fun h => ha.blk _ _ _ _ _ h) (fun h => hb.blk _ _ _ _ _ h)⟩
  rcases key h1 with h1 | h1 <;> rcases key h2 with h2 | h2
  · exact ha.inj _ _ _ _ _ _ _ _ _ _ h1 h2 hc hc' hE
  · exact absurd hE (hd _ _ _ _ _ _ _ _ _ _ h1 h2 hc hc')
  · exact absurd hE.symm (hd _ _ _ _ _ _ _ _ _ _ h2 h1 hc' hc)
  · exact hb.inj _ _ _ _ _ _ _ _ _ _ h1 h2 hc hc' hE

/-- no block at all -/
def noX : Nat → Prop := fun _ => False

theorem cell_lt {w : World} {b o : Nat} {y : Value} (h : w.cell? ⟨b, o, none⟩ = some y) : b < w.heap.size := by
  apply Classical.byContradiction
  intro hb
  simp [World.cell?, Array.getElem?_eq_none (by omega : w.heap.size ≤ b)] at h

theorem cell_same {w w' : World} {b o : Nat} (h : w'.heap[b]? = w.heap[b]?) : w'.cell? ⟨b, o, none⟩ = w.cell? ⟨b, o, none⟩ := by
  simp only [World.cell?, h]

theorem Bor.keep {cx : Cx} {w : World} (hk : Keep cx w) {y : Value} {sz : Nat} {es : List (List T)} (h : Bor cx.w0 cx.X y sz es) : Bor w noX y sz es := by
  refine Bor.rec (motive_1 := fun y sz es _ => Bor w noX y sz es) (motive_2 := fun t y _ => BorT w noX t y) ?_ ?_ ?_ ?_ h
  · intro a cap sz es b o g hl hsz ha hc ht ih
    refine .mk a cap sz es b o g hl hsz (ha.imp id fun h => ⟨h.1, fun h => h⟩) (fun i e j t hi hj => ?_) ih
    have h1 := hc i e j t hi hj
    rcases ha with rfl | ⟨_, hX⟩
    · simp at hi
    · rw [cell_same (hk.block b (cell_lt h1) hX)]
      exact h1
  · exact fun x => .v x
  · exact fun x => .d x
  · exact fun y sz es _ ih => .s y sz es ih

theorem borEs_eq : ∀ (es : List (List T)), borEs es = es.map borE
  | [] => rfl
  | e :: es => by simp [borEs, borEs_eq es]
theorem borE_eq : ∀ (e : List T), borE e = e.map borT
  | [] => rfl
  | t :: ts => by simp [borE, borE_eq ts]

theorem borEs_get {es : List (List T)} {i : Nat} {e : List T} (h : (borEs es)[i]? = some e) : ∃ e0, es[i]? = some e0 ∧ e = borE e0 := by
  rw [borEs_eq, List.getElem?_map] at h
  cases hi : es[i]? with
  | none => simp [hi] at h
  | some e0 => rw [hi] at h; simp at h; exact ⟨e0, rfl, h.symm⟩
theorem borE_get {e : List T} {i : Nat} {t : T} (h : (borE e)[i]? = some t) : ∃ t0, e[i]? = some t0 ∧ t = borT t0 := by
  rw [borE_eq, List.getElem?_map] at h
  cases hi : e[i]? with
  | none => simp [hi] at h
  | some e0 => rw [hi] at h; simp at h; exact ⟨e0, rfl, h.symm⟩
theorem borE_length (e : List T) : (borE e).length = e.length := by rw [borE_eq, List.length_map]
theorem borEs_length (e : List (List T)) : (borEs e).length = e.length := by rw [borEs_eq, List.length_map]

/-- a part of an owned row, lent -/
theorem row_lent {cx : Cx} {w : World} (hkp : Keep cx w) {r : HRow} : ∀ (N : Nat) (sz : Nat) (es : List (List T)) (p : Path), SizeOf.sizeOf es ≤ N → (∀ q sz' es', rowAt sz es q = some (sz', es') → RowOK cx w (fun i j => r.hd (p ++ q ++ [(i, j)])) sz' es' (r.hd (p ++ q))) →
    ∀ (off len cap : Nat) (a : Option Addr), off + len ≤ es.length → len ≤ cap → (cap ≠ 0 → a = some ⟨(r.hd p).b, (r.hd p).o + off * sz, none⟩ ∧ off + cap ≤ (r.hd p).cap) →
    Bor w noX (.slice a len cap) sz (borEs ((es.drop off).take len)) := by
  intro N
  induction N with
  | zero => intro sz es p hN; cases es <;> simp at hN
  | succ N ih =>
  intro sz es p hN hrows off len cap a hl hle hcap
  have hlen : (borEs ((es.drop off).take len)).length = len := by rw [borEs_length]; simp; omega
  by_cases h0 : len = 0
  · subst h0
    have : borEs ((es.drop off).take 0) = [] := by simp [borEs]
    rw [this]
    exact .mk a cap sz [] 0 0 (fun _ _ => undef) (by simp) (fun i e h => by simp at h) (.inl rfl) (fun i e j t h => by simp at h) (fun i e j t h => by simp at h)
  · obtain ⟨rfl, h2⟩ := hcap (by omega)
    have hrow := hrows [] sz es rfl
    simp only [List.append_nil] at hrow
    obtain ⟨c, E, k1, k2, k3⟩ := hrow.2 (show (r.hd p).cap ≠ 0 by omega)
    have hget : ∀ (i : Nat) (e : List T), (borEs ((es.drop off).take len))[i]? = some e → ∃ e0, es[off + i]? = some e0 ∧ e = borE e0 := by
      intro i e hi
      have hil := (List.getElem?_eq_some_iff.1 hi).1
      obtain ⟨e0, h3, rfl⟩ := borEs_get hi
      rw [List.getElem?_take_of_lt (by omega), List.getElem?_drop] at h3
      exact ⟨e0, h3, rfl⟩
    have := Bor.mk (w := w) (X := noX) (some ⟨(r.hd p).b, (r.hd p).o + off * sz, none⟩) cap sz (borEs ((es.drop off).take len)) (r.hd p).b ((r.hd p).o + off * sz) (fun i j => c.getD ((r.hd p).o + ((off + i) * sz + j)) undef) (by omega) (fun i e hi => ?_) (.inr ⟨rfl, fun h => h⟩) (fun i e j t hi hj => ?_) (fun i e j t hi hj => ?_)
    · rw [hlen] at this; exact this
    · obtain ⟨e0, h3, rfl⟩ := hget i e hi
      rw [borE_length]
      exact (k3 _ e0 h3).1
    · obtain ⟨e0, h3, rfl⟩ := hget i e hi
      obtain ⟨t0, h4, rfl⟩ := borE_get hj
      obtain ⟨u, hu, _⟩ := (k3 _ e0 h3).2 j t0 h4
      simp only [World.cell?, k1]
      rw [show (r.hd p).o + off * sz + (i * sz + j) = (r.hd p).o + ((off + i) * sz + j) by have := Nat.add_mul off i sz; omega, Array.getD_eq_getD_getElem?, hu]
      rfl
    · obtain ⟨e0, h3, rfl⟩ := hget i e hi
      obtain ⟨t0, h4, rfl⟩ := borE_get hj
      obtain ⟨u, hu, hok⟩ := (k3 _ e0 h3).2 j t0 h4
      rw [Array.getD_eq_getD_getElem?, hu]
      simp only [Option.getD_some]
      cases t0 with
      | v x => cases hok; exact .v _
      | d => exact .d _
      | s own z zs =>
        simp only [borT]
        refine .s _ _ _ ?_
        cases own with
        | false =>
          have hb : Bor w noX u z zs := Bor.keep hkp hok
          have hbb : ∀ (y : Value) (z : Nat) (zs : List (List T)), Bor w noX y z zs → Bor w noX y z (borEs zs) := by
            intro y z zs h
            refine Bor.rec (motive_1 := fun y sz es _ => Bor w noX y sz (borEs es)) (motive_2 := fun t y _ => BorT w noX (borT t) y) ?_ ?_ ?_ ?_ h
            · intro a cap sz es b o g hl hsz ha hc ht ih
              have := Bor.mk (w := w) (X := noX) a cap sz (borEs es) b o g (by rw [borEs_length]; exact hl) (fun i e hi => by obtain ⟨e0, h5, rfl⟩ := borEs_get hi; rw [borE_length]; exact hsz i e0 h5) (ha.imp (fun h => by rw [h]; rfl) id)
                (fun i e j t hi hj => by obtain ⟨e0, h5, rfl⟩ := borEs_get hi; obtain ⟨t0, h6, rfl⟩ := borE_get hj; exact hc i e0 j t0 h5 h6)
                (fun i e j t hi hj => by obtain ⟨e0, h5, rfl⟩ := borEs_get hi; obtain ⟨t0, h6, rfl⟩ := borE_get hj; exact ih i e0 j t0 h5 h6)
              rw [borEs_length] at this
              exact this
            · exact fun x => .v x
            · exact fun x => .d x
            · exact fun y sz es _ ih => .s y sz _ ih
          exact hbb _ _ _ hb
        | true =>
          obtain ⟨a1, rfl, ha1⟩ := hok
          have hcell : cellAt es (off + i) j = some (.s true z zs) := by simp [cellAt, h3, h4]
          have hsz : SizeOf.sizeOf zs ≤ N := by
            have h7 : SizeOf.sizeOf (T.s true z zs) < SizeOf.sizeOf e0 := by
              have := List.sizeOf_lt_of_mem (List.mem_of_getElem? h4)
              omega
            have h8 : SizeOf.sizeOf e0 < SizeOf.sizeOf es := List.sizeOf_lt_of_mem (List.mem_of_getElem? h3)
            simp at h7
            omega
          have hsub := ih z zs (p ++ [(off + i, j)]) hsz (fun q sz' es' hq => by
            have := hrows ((off + i, j) :: q) sz' es' (by simp only [rowAt, hcell]; exact hq)
            simpa using this) 0 zs.length (r.hd (p ++ [(off + i, j)])).cap a1 (by simp) (by
            have := (hrows [(off + i, j)] z zs (by simp only [rowAt, hcell])).1
            simpa using this) (fun hc => ⟨by simpa using ha1 hc, by simp⟩)
          simpa using hsub

end Go.Abs

namespace Go.Abs
open Go

def hkF (st : St) (Hd : K → Path → Hdr) (fl : K → Option HRow) : Heap := fun
  | .inl k => HeapOf st Hd (.inl k)
  | .inr x => fl x

def setK (fl : K → Option HRow) (x : K) (r : Option HRow) : K → Option HRow := fun y => if y = x then r else fl y

/-- what is handed over, and where it was -/
inductive Handed (st : St) (Hd : K → Path → Hdr) : Ws → List Pl → Prop
  | nil : Handed st Hd [] []
  | cons (ov : Ws) (pls : List Pl) (pl : Pl) (e : Ent) (es : List (List T)) (h : Handed st Hd ov pls) (he : app ov st (.k pl.k) = .e e) (hv : pl.ver = e.ver) (hr : rowAt e.sz e.es pl.p = some (pl.sz, es)) (hl : es.length = pl.len)
      (hf : Fewer st (app ov st) Hd Hd) (hk : ∃ ver, known st pl.k ver) : Handed st Hd (gone pl.k pl.p e :: ov) (pl :: pls)

structure AInv (cx : Cx) (st : St) (Hd : K → Path → Hdr) (w : World) (ac : Acc) (fl : K → Option HRow) : Prop where
  few : Fewer st (app ac.1 st) Hd Hd
  heap : HeapOK cx (hkF (app ac.1 st) Hd fl) w
  handed : Handed st Hd ac.1 ac.2
  own : ∀ x r, fl x = some r → ownEs r.es = true
  src : ∀ x r, fl x = some r → (r.es = [] ∧ ∀ q, (r.hd q).cap = 0) ∨ ∃ pl, pl ∈ ac.2 ∧ x = (pl.n, pl.j)
  nodup : (ac.2.map fun pl => (pl.n, pl.j)).Nodup
  back : ∀ pl, pl ∈ ac.2 → ∃ es, fl (pl.n, pl.j) = some ⟨pl.sz, es, fun q => Hd pl.k (pl.p ++ q)⟩ ∧ es.length = pl.len

def Free (n j : Nat) (fl : K → Option HRow) : Prop := ∀ x : K, (x.1 = n ∧ j ≤ x.2) ∨ n < x.1 → fl x = none
def Ext (n j : Nat) (fl fl' : K → Option HRow) : Prop := ∀ x : K, ¬ ((x.1 = n ∧ j ≤ x.2) ∨ n < x.1) → fl' x = fl x

def ECell (w : World) (fl : K → Option HRow) (n j : Nat) (t : T) (y : Value) : Prop := match t with
  | .v x => y = x
  | .d => True
  | .s false sz es => Bor w noX y sz es
  | .s true sz es => ∃ hd a cap, fl (n, j) = some ⟨sz, es, hd⟩ ∧ y = .slice a es.length cap ∧ es.length ≤ cap ∧ (cap ≠ 0 → a = some ⟨(hd []).b, (hd []).o, none⟩ ∧ cap ≤ (hd []).cap)

def ECap (w : World) (a : A) (y : Value) : Prop := match a with
  | .q sz es i off => ∃ b o cap, y = .pointer (some ⟨b, o + (i * sz + off), none⟩) ∧ Bor w noX (.slice (some ⟨b, o, none⟩) es.length cap) sz es ∧ i < es.length
  | _ => False

def EArg (w : World) (fl : K → Option HRow) (n : Nat) (a : A) (y : Value) : Prop := match a with
  | .c t => ECell w fl n 0 t y
  | .a ts => ∃ ys : Array Value, y = .agg ys ∧ ys.size = ts.length ∧ ∀ (j : Nat) (t : T) (x : Value), ts[j]? = some t → ys[j]? = some x → ECell w fl n j t x
  | .f fn caps => ∃ ys : Array Value, y = .func (.func fn) #[] ys ∧ ys.size = caps.length ∧ ∀ (i : Nat) (a : A) (x : Value), caps[i]? = some a → ys[i]? = some x → ECap w a x
  | .q sz es i off => ECap w (.q sz es i off) y

theorem ECell.ext {w : World} {fl fl' : K → Option HRow} {n j : Nat} {t : T} {y : Value} (h : ECell w fl n j t y) (he : fl' (n, j) = fl (n, j)) : ECell w fl' n j t y := by
  cases t with
  | v x => exact h
  | d => trivial
  | s own sz es =>
    cases own with
    | false => exact h
    | true => obtain ⟨hd, a, cap, h1, h2⟩ := h; exact ⟨hd, a, cap, by rw [he]; exact h1, h2⟩

theorem EArg.ext {w : World} {fl fl' : K → Option HRow} {n : Nat} {a : A} {y : Value} (h : EArg w fl n a y) (he : Ext (n + 1) 0 fl fl') : EArg w fl' n a y := by
  have hk : ∀ j, fl' (n, j) = fl (n, j) := fun j => he (n, j) (by simp)
  cases a with
  | c t => exact ECell.ext h (hk 0)
  | a ts => obtain ⟨ys, h1, h2, h3⟩ := h; exact ⟨ys, h1, h2, fun j t x h4 h5 => (h3 j t x h4 h5).ext (hk j)⟩
  | q sz es i off => exact h
  | f fn caps => exact h

theorem Ext.refl (n j : Nat) (fl : K → Option HRow) : Ext n j fl fl := fun _ _ => rfl
theorem Ext.trans {n j : Nat} {a b c : K → Option HRow} (h : Ext n j a b) (g : Ext n j b c) : Ext n j a c := fun x hx => (g x hx).trans (h x hx)

theorem hkF_setK (st : St) (Hd : K → Path → Hdr) (fl : K → Option HRow) (x : K) (r : Option HRow) : hkF st Hd (setK fl x r) = (hkF st Hd fl).set (.inr x) r := by
  funext i
  cases i with
  | inl k => rw [Heap.set_ne _ _ (by simp)]; rfl
  | inr y =>
    by_cases h : y = x
    · subst h; rw [Heap.set_same]; simp [hkF, setK]
    · rw [Heap.set_ne _ _ (by simp [h])]; simp [hkF, setK, h]

theorem hkF_app {st : St} {Hd : K → Path → Hdr} {fl : K → Option HRow} {k : K} {x : X} : hkF (app [(.k k, x)] st) Hd fl = (hkF st Hd fl).set (.inl k) (match x with | .e e => some ⟨e.sz, e.es, Hd k⟩ | _ => none) := by
  funext i
  cases i with
  | inr y => rw [Heap.set_ne _ _ (by simp)]; rfl
  | inl k' =>
    by_cases h : k' = k
    · subst h; rw [Heap.set_same]; simp only [hkF, HeapOf, app_one_same]; cases x <;> rfl
    · rw [Heap.set_ne _ _ (fun e => h (Sum.inl.inj e))]
      simp only [hkF, HeapOf, app_one_ne _ _ (fun e => h (Loc.k.inj e) : (Loc.k k') ≠ .k k)]

section
variable {P : Program} {cx : Cx} {n0 : Nat} {st : St} {Hd : K → Path → Hdr} {a : Act} {w : World} {Kc : Ws → Prop}

theorem lent_row (hkp : Keep cx w) {H : Heap} (hk : HeapOK cx H w) {i : Ix} {r : HRow} (hi : H i = some r) {p : Path} {sz : Nat} {es : List (List T)} (hr : rowAt r.sz r.es p = some (sz, es)) {off len cap : Nat} {a : Option Addr}
    (hl : off + len ≤ es.length) (hle : len ≤ cap) (hcap : cap ≠ 0 → a = some ⟨(r.hd p).b, (r.hd p).o + off * sz, none⟩ ∧ off + cap ≤ (r.hd p).cap) : Bor w noX (.slice a len cap) sz (borEs ((es.drop off).take len)) :=
  row_lent hkp (r := r) (SizeOf.sizeOf es) sz es p (Nat.le_refl _) (fun q sz' es' hq => hk.rows i r (p ++ q) sz' es' hi (by rw [rowAt_append, hr]; exact hq)) off len cap a hl hle hcap

theorem cellA_ok (hkp : Keep cx w) {own : Bool} {n j : Nat} {ac : Acc} {kd : Option Nat} {c : C} {f : Acc → T → M} {fl : K → Option HRow} {y : Value} (hm : (cellA own n j ac kd c f).wp P st Kc) (hi : AInv cx st Hd w ac fl) (hf : Free n j fl) (hc : COK cx st Hd c y) :
    ∃ ac' fl' t, AInv cx st Hd w ac' fl' ∧ Ext n j fl fl' ∧ Free n (j + 1) fl' ∧ ECell w fl' n j t y ∧ (∀ pl, pl ∈ ac'.2 → pl ∈ ac.2 ∨ (pl.n = n ∧ pl.j = j ∧ ∃ sz es, t = .s true sz es)) ∧ (f ac' t).wp P st Kc := by
  have hf1 : Free n (j + 1) fl := fun x hx => hf x (hx.imp (fun h => ⟨h.1, by omega⟩) id)
  have hfj : fl (n, j) = none := hf (n, j) (.inl ⟨rfl, Nat.le_refl _⟩)
  have hset : ∀ r : HRow, Ext n j fl (setK fl (n, j) (some r)) ∧ Free n (j + 1) (setK fl (n, j) (some r)) := by
    refine fun r => ⟨fun x hx => ?_, fun x hx => ?_⟩
    · have : x ≠ (n, j) := by rintro rfl; exact hx (.inl ⟨rfl, Nat.le_refl _⟩)
      simp [setK, this]
    · have : x ≠ (n, j) := by rintro rfl; rcases hx with ⟨_, hx⟩ | hx <;> simp at hx <;> omega
      simp only [setK, if_neg this]; exact hf1 x hx
  have hnone : hkF (app ac.1 st) Hd fl (.inr (n, j)) = none := hfj
  cases hc with
  | v => exact ⟨ac, fl, .v y, hi, Ext.refl _ _ _, hf1, rfl, fun pl h => .inl h, hm⟩
  | u => 
    cases own with
    | true => exact hm.elim
    | false => exact ⟨ac, fl, .d, hi, Ext.refl _ _ _, hf1, trivial, fun pl h => .inl h, hm⟩
  | b _ sz es hb =>
    cases own with
    | true => exact hm.elim
    | false => exact ⟨ac, fl, .s false sz es, hi, Ext.refl _ _ _, hf1, Bor.keep hkp hb, fun pl h => .inl h, hm⟩
  | n =>
    cases kd with
    | none => exact hm.elim
    | some m =>
      cases own with
      | false => exact ⟨ac, fl, .s false m [], hi, Ext.refl _ _ _, hf1, .mk none 0 m [] 0 0 (fun _ _ => undef) (by simp) (fun i e h => by simp at h) (.inl rfl) (fun i e j t h => by simp at h) (fun i e j t h => by simp at h), fun pl h => .inl h, hm⟩
      | true =>
        refine ⟨ac, setK fl (n, j) (some ⟨m, [], fun _ => ⟨0, 0, 0⟩⟩), .s true m [], ⟨hi.few, by rw [hkF_setK]; exact hi.heap.empty hkp.size _ _, hi.handed, fun x r hx => ?_, fun x r hx => ?_, hi.nodup, fun pl hpl => ?_⟩, (hset _).1, (hset _).2, ⟨fun _ => ⟨0, 0, 0⟩, none, 0, by simp [setK], rfl, Nat.le_refl _, fun h => absurd rfl h⟩, fun pl h => .inl h, hm⟩
        · simp only [setK] at hx
          split at hx
          · obtain rfl := Option.some.inj hx; rfl
          · exact hi.own x r hx
        · simp only [setK] at hx
          split at hx
          · obtain rfl := Option.some.inj hx; exact .inl ⟨rfl, fun _ => rfl⟩
          · exact hi.src x r hx
        · obtain ⟨es, h1, h2⟩ := hi.back pl hpl
          have : (pl.n, pl.j) ≠ (n, j) := by intro e; rw [e, hfj] at h1; simp at h1
          exact ⟨es, by simp only [setK, if_neg this]; exact h1, h2⟩
  | r k ver p off len a' cap hkn hle hv =>
    obtain ⟨e, sz, es, he, hver, hr, hm2⟩ := getR_inv hm
    have hkn1 := hi.few.kn _ _ hkn
    obtain ⟨es0, hv0, hlen0⟩ := hi.few.va _ _ _ _ _ _ hkn ⟨e, he, hver, hr, rfl⟩
    obtain ⟨hb1, hb2⟩ := hv _ _ _ hv0
    rw [hlen0] at hb1
    have hH : hkF (app ac.1 st) Hd fl (.inl k) = some ⟨e.sz, e.es, Hd k⟩ := HeapOf_some he
    cases own with
    | false =>
      obtain ⟨hle2, hm3⟩ := hm2
      exact ⟨ac, fl, .s false sz (borEs ((es.drop off).take len)), hi, Ext.refl _ _ _, hf1, lent_row hkp hi.heap hH hr hle2 hle hb2, fun pl h => .inl h, hm3⟩
    | true =>
      obtain ⟨⟨rfl, rfl, hown⟩, hm3⟩ := hm2
      have hback : ∀ pl, pl ∈ (⟨n, j, k, e.ver, p, sz, es.length⟩ :: ac.2 : List Pl) → ∃ es', setK fl (n, j) (some ⟨sz, es, fun q => Hd k (p ++ q)⟩) (pl.n, pl.j) = some ⟨pl.sz, es', fun q => Hd pl.k (pl.p ++ q)⟩ ∧ es'.length = pl.len := by
        intro pl hpl
        rcases List.mem_cons.1 hpl with rfl | hpl
        · exact ⟨es, by simp [setK], rfl⟩
        · obtain ⟨es1, h1, h2⟩ := hi.back pl hpl
          have : (pl.n, pl.j) ≠ (n, j) := by intro e; rw [e, hfj] at h1; simp at h1
          exact ⟨es1, by simp only [setK, if_neg this]; exact h1, h2⟩
      have hmk : Fewer st (app (gone k p e :: ac.1) st) Hd Hd → HeapOK cx (hkF (app (gone k p e :: ac.1) st) Hd (setK fl (n, j) (some ⟨sz, es, fun q => Hd k (p ++ q)⟩))) w → AInv cx st Hd w (gone k p e :: ac.1, ⟨n, j, k, e.ver, p, sz, es.length⟩ :: ac.2) (setK fl (n, j) (some ⟨sz, es, fun q => Hd k (p ++ q)⟩)) := by
        intro h1 h2
        refine ⟨h1, h2, .cons _ _ ⟨n, j, k, e.ver, p, sz, es.length⟩ e es hi.handed he rfl hr rfl hi.few ⟨ver, hkn⟩, fun x r hx => ?_, fun x r hx => ?_, ?_, hback⟩
        · simp only [setK] at hx
          split at hx
          · obtain rfl := Option.some.inj hx; exact hown
          · exact hi.own x r hx
        · simp only [setK] at hx
          split at hx
          · rename_i hxe; exact .inr ⟨_, List.mem_cons_self .., hxe⟩
          · exact (hi.src x r hx).imp id fun ⟨pl, h3, h4⟩ => ⟨pl, List.mem_cons_of_mem _ h3, h4⟩
        · refine List.nodup_cons.2 ⟨fun hin => ?_, hi.nodup⟩
          obtain ⟨pl, hpl, hE⟩ := List.mem_map.1 hin
          obtain ⟨es1, h1, _⟩ := hi.back pl hpl
          have hE2 : (pl.n, pl.j) = (n, j) := hE
          rw [hE2, hfj] at h1
          simp at h1
      refine ⟨_, setK fl (n, j) (some ⟨sz, es, fun q => Hd k (p ++ q)⟩), .s true sz es, hmk ?_ ?_, (hset _).1, (hset _).2, ⟨fun q => Hd k (p ++ q), a', cap, by simp [setK], rfl, hle, fun hc => ?_⟩, fun pl hpl => (List.mem_cons.1 hpl).elim (fun h => .inr (by rw [h]; exact ⟨rfl, rfl, sz, es, rfl⟩)) .inl, hm3⟩
      · cases p with
        | nil => simp only [gone]; rw [app_cons]; exact hi.few.trans (fewer_gone he)
        | cons x p =>
          obtain ⟨q, a1, b1, hq⟩ := path_split x p
          have hg : gone k (x :: p) e = (.k k, .e { e with es := setAt e.es q e.sz a1 b1 .d }) := by
            simp only [gone, holed]
            have h1 : (x :: p).dropLast = q := by rw [hq]; simp
            have h2 : (x :: p).getLast? = some (a1, b1) := by rw [hq]; simp
            simp only [h1, h2, Option.getD_some]
          rw [hg, app_cons]
          rw [hq] at hr
          obtain ⟨s1, r1, hr1, hcell⟩ := rowAt_snoc hr
          have hsa : setAt e.es q e.sz a1 b1 .d = setRow e.es q (setCell r1 a1 b1 .d) := by simp [setAt, hr1]
          rw [hsa]
          exact hi.few.trans (fewer_row he (fun p sz es h => hole_row hr1 p sz es h))
      · cases p with
        | nil =>
          simp only [rowAt, Option.some.injEq, Prod.mk.injEq] at hr
          obtain ⟨rfl, rfl⟩ := hr
          simp only [gone]
          rw [app_cons, hkF_setK, hkF_app]
          have := hi.heap.rename (i := .inl k) (i2 := .inr (n, j)) hH hnone
          simpa using this
        | cons x p =>
          obtain ⟨q, a1, b1, hq⟩ := path_split x p
          have hg : gone k (x :: p) e = (.k k, .e { e with es := setAt e.es q e.sz a1 b1 .d }) := by
            simp only [gone, holed]
            have h1 : (x :: p).dropLast = q := by rw [hq]; simp
            have h2 : (x :: p).getLast? = some (a1, b1) := by rw [hq]; simp
            simp only [h1, h2, Option.getD_some]
          rw [hg, app_cons, hkF_setK, hkF_app]
          rw [hq] at hr ⊢
          obtain ⟨s1, r1, hr1, hcell⟩ := rowAt_snoc hr
          have hsa : setAt e.es q e.sz a1 b1 .d = setRow e.es q (setCell r1 a1 b1 .d) := by simp [setAt, hr1]
          have := hi.heap.detach (i2 := .inr (n, j)) hH hr1 hnone hcell
          simpa [hsa] using this
      · obtain ⟨h1, h2⟩ := hb2 hc
        exact ⟨by simpa using h1, by simpa using h2⟩

theorem cellsA_ok (hkp : Keep cx w) {own : Bool} {n : Nat} : ∀ {j : Nat} {ac : Acc} {ks : List (Option Nat)} {cs : List C} {f : Acc → List T → M} {fl : K → Option HRow} {ys : Nat → Value}, (cellsA own n j ac ks cs f).wp P st Kc → AInv cx st Hd w ac fl → Free n j fl → (∀ (i : Nat) (c : C), cs[i]? = some c → COK cx st Hd c (ys i)) →
    ∃ ac' fl' ts, AInv cx st Hd w ac' fl' ∧ Ext n j fl fl' ∧ Free n (j + ts.length) fl' ∧ ts.length = cs.length ∧ (∀ (i : Nat) (t : T), ts[i]? = some t → ECell w fl' n (j + i) t (ys i)) ∧ (∀ pl, pl ∈ ac'.2 → pl ∈ ac.2 ∨ (pl.n = n ∧ ∃ i sz es, pl.j = j + i ∧ ts[i]? = some (.s true sz es))) ∧ (f ac' ts).wp P st Kc
  | j, ac, [], [], f, fl, ys, hm, hi, hf, hc => ⟨ac, fl, [], hi, Ext.refl _ _ _, hf, rfl, fun i t h => by simp at h, fun pl h => .inl h, hm⟩
  | j, ac, [], _ :: _, f, fl, ys, hm, hi, hf, hc => hm.elim
  | j, ac, _ :: _, [], f, fl, ys, hm, hi, hf, hc => hm.elim
  | j, ac, kd :: ks, c :: cs, f, fl, ys, hm, hi, hf, hc => by
    obtain ⟨ac1, fl1, t, h1, h2, h3, h4, h5, hm1⟩ := cellA_ok hkp hm hi hf (hc 0 c rfl)
    obtain ⟨ac2, fl2, ts, k1, k2, k3, k4, k5, k6, hm2⟩ := cellsA_ok hkp (ys := fun i => ys (i + 1)) hm1 h1 h3 (fun i c h => hc (i + 1) c (by simpa using h))
    have hx : Ext n j fl1 fl2 := fun x hx => k2 x (fun h => hx (h.imp (fun h => ⟨h.1, by omega⟩) id))
    refine ⟨ac2, fl2, t :: ts, k1, h2.trans hx, by simpa [Nat.add_assoc, Nat.add_comm 1] using k3, by simp [k4], fun i t' ht => ?_, fun pl hpl => ?_, hm2⟩
    · cases i with
      | zero => simp at ht; subst ht; exact h4.ext (k2 (n, j) (by simp))
      | succ i => have := k5 i t' (by simpa using ht); rw [show j + 1 + i = j + (i + 1) by omega] at this; exact this
    rcases k6 pl hpl with hp | ⟨q1, i, sz, es, q2, q3⟩
    · rcases h5 pl hp with hp | ⟨q1, q2, sz, es, q3⟩
      · exact .inl hp
      · exact .inr ⟨q1, 0, sz, es, by omega, by simp [q3]⟩
    · exact .inr ⟨q1, i + 1, sz, es, by omega, by simpa using q3⟩

theorem capA_ok (hkp : Keep cx w) {ov : Ws} (hfew : Fewer st (app ov st) Hd Hd) {fl : K → Option HRow} (hk : HeapOK cx (hkF (app ov st) Hd fl) w) {v : V} {y : Value} {f : A → M} (hv : VOK cx st Hd v y) (hm : (capA ov v f).wp P st Kc) : ∃ a, ECap w a y ∧ (f a).wp P st Kc := by
  unfold capA at hm
  split at hm
  · rename_i k ver p i off
    obtain ⟨e, sz, es, he, hver, hr, hlt, hm2⟩ := getR_inv hm
    refine ⟨_, ?_, hm2⟩
    cases hv with | p _ _ _ _ _ a hkn hv =>
    obtain ⟨es0, hv0, hlen0⟩ := hfew.va _ _ _ _ _ _ hkn ⟨e, he, hver, hr, rfl⟩
    have hH : hkF (app ov st) Hd fl (.inl k) = some ⟨e.sz, e.es, Hd k⟩ := HeapOf_some he
    have hrow := hk.row hH hr
    have := lent_row hkp hk hH hr (off := 0) (len := es.length) (cap := (Hd k p).cap) (a := some ⟨(Hd k p).b, (Hd k p).o, none⟩) (by omega) hrow.1 (fun _ => ⟨by simp, by simp⟩)
    simp only [List.drop_zero, List.take_length] at this
    refine ⟨(Hd k p).b, (Hd k p).o, (Hd k p).cap, ?_, by rw [borEs_length]; exact this, by rw [borEs_length]; exact hlt⟩
    rw [hv _ _ _ hv0 (by omega)]
  · refine ⟨_, ?_, hm⟩
    cases hv with | q sz es i off b o cap hb hlt => exact ⟨b, o, cap, rfl, Bor.keep hkp hb, hlt⟩
  · exact hm.elim

theorem capsA_ok (hkp : Keep cx w) {ov : Ws} (hfew : Fewer st (app ov st) Hd Hd) {fl : K → Option HRow} (hk : HeapOK cx (hkF (app ov st) Hd fl) w) : ∀ {vs : List V} {ys : Nat → Value} {f : List A → M}, (∀ (i : Nat) (v : V), vs[i]? = some v → VOK cx st Hd v (ys i)) → (capsA ov vs f).wp P st Kc →
    ∃ as, as.length = vs.length ∧ (∀ (i : Nat) (a : A), as[i]? = some a → ECap w a (ys i)) ∧ (f as).wp P st Kc
  | [], ys, f, hv, hm => ⟨[], rfl, fun i a h => by simp at h, hm⟩
  | v :: vs, ys, f, hv, hm => by
    obtain ⟨a, h1, hm1⟩ := capA_ok hkp hfew hk (hv 0 v rfl) hm
    obtain ⟨as, h2, h3, hm2⟩ := capsA_ok hkp hfew hk (ys := fun i => ys (i + 1)) (fun i v h => hv (i + 1) v (by simpa using h)) hm1
    refine ⟨a :: as, by simp [h2], fun i a' ha => ?_, hm2⟩
    cases i with
    | zero => simp at ha; subst ha; exact h1
    | succ i => exact h3 i a' (by simpa using ha)

theorem argA_ok (hkp : Keep cx w) {own : Bool} {n : Nat} {ac : Acc} {ty : TypeId} {v : V} {f : Acc → A → M} {fl : K → Option HRow} {y : Value} (hm : (argA P own n ac ty v f).wp P st Kc) (hi : AInv cx st Hd w ac fl) (hf : Free n 0 fl) (hv : VOK cx st Hd v y) :
    ∃ ac' fl' a, AInv cx st Hd w ac' fl' ∧ Ext n 0 fl fl' ∧ Free (n + 1) 0 fl' ∧ EArg w fl' n a y ∧ (∀ pl, pl ∈ ac'.2 → pl ∈ ac.2 ∨ (pl.n = n ∧ ∃ sz es, a.ts[pl.j]? = some (.s true sz es))) ∧ (f ac' a).wp P st Kc := by
  have hfr : ∀ {j fl'}, Free n j fl' → Free (n + 1) 0 fl' := fun h x hx => h x (.inr (by omega))
  unfold argA at hm
  split at hm
  · cases hv with | c _ _ hc =>
    obtain ⟨ac', fl', t, h1, h2, h3, h4, h5, hm1⟩ := cellA_ok hkp hm hi hf hc
    exact ⟨ac', fl', .c t, h1, h2, hfr h3, h4, fun pl hpl => (h5 pl hpl).imp id fun ⟨q1, q2, sz, es, q3⟩ => ⟨q1, sz, es, by rw [q2]; simp [A.ts, q3]⟩, hm1⟩
  · cases hv with | a cs ys hl hc =>
    obtain ⟨ac', fl', ts, h1, h2, h3, h4, h5, h6, hm1⟩ := cellsA_ok hkp (ys := fun i => ys.getD i undef) hm hi hf (fun i c hi => by
      have hil := (List.getElem?_eq_some_iff.1 hi).1
      have hy : ys[i]? = some (ys.getD i undef) := by simp [Array.getD_eq_getD_getElem?, Array.getElem?_eq_getElem (by omega : i < ys.size)]
      exact hc i c _ hi hy)
    refine ⟨ac', fl', .a ts, h1, h2, hfr h3, ⟨ys, rfl, by omega, fun j t x ht hx => ?_⟩, fun pl hpl => (h6 pl hpl).imp id fun ⟨q1, i, sz, es, q2, q3⟩ => ⟨q1, sz, es, by rw [q2, Nat.zero_add]; exact q3⟩, hm1⟩
    have := h5 j t ht
    rw [Nat.zero_add, Array.getD_eq_getD_getElem?, hx] at this
    exact this
  · cases hv with | f fn caps ys hl hc =>
    obtain ⟨as, h1, h2, hm1⟩ := capsA_ok hkp hi.few hi.heap (ys := fun i => ys.getD i undef) (fun i v hi => by
      have hil := (List.getElem?_eq_some_iff.1 hi).1
      have hy : ys[i]? = some (ys.getD i undef) := by simp [Array.getD_eq_getD_getElem?, Array.getElem?_eq_getElem (by omega : i < ys.size)]
      exact hc i v _ hi hy) hm
    refine ⟨ac, fl, .f _ as, hi, Ext.refl _ _ _, hfr hf, ⟨ys, rfl, by omega, fun j t x ht hx => ?_⟩, fun pl h => .inl h, hm1⟩
    have := h2 j t ht
    rw [Array.getD_eq_getD_getElem?, hx] at this
    exact this
  · exact hm.elim

theorem argsA_ok (hkp : Keep cx w) {mdf : Nat → Bool} : ∀ {n : Nat} {ac : Acc} {tys : List TypeId} {vs : List V} {f : Acc → List A → M} {fl : K → Option HRow} {ys : Nat → Value}, (argsA P mdf n ac tys vs f).wp P st Kc → AInv cx st Hd w ac fl → Free n 0 fl → (∀ (i : Nat) (v : V), vs[i]? = some v → VOK cx st Hd v (ys i)) →
    ∃ ac' fl' as, AInv cx st Hd w ac' fl' ∧ Ext n 0 fl fl' ∧ Free (n + as.length) 0 fl' ∧ as.length = vs.length ∧ (∀ (i : Nat) (a : A), as[i]? = some a → EArg w fl' (n + i) a (ys i)) ∧ (∀ pl, pl ∈ ac'.2 → pl ∈ ac.2 ∨ (∃ i a sz es, as[i]? = some a ∧ pl.n = n + i ∧ a.ts[pl.j]? = some (.s true sz es))) ∧ (f ac' as).wp P st Kc
  | n, ac, [], [], f, fl, ys, hm, hi, hf, hv => ⟨ac, fl, [], hi, Ext.refl _ _ _, hf, rfl, fun i a h => by simp at h, fun pl h => .inl h, hm⟩
  | n, ac, [], _ :: _, f, fl, ys, hm, hi, hf, hv => hm.elim
  | n, ac, _ :: _, [], f, fl, ys, hm, hi, hf, hv => hm.elim
  | n, ac, ty :: tys, v :: vs, f, fl, ys, hm, hi, hf, hv => by
    obtain ⟨ac1, fl1, a, h1, h2, h3, h4, h5, hm1⟩ := argA_ok hkp hm hi hf (hv 0 v rfl)
    obtain ⟨ac2, fl2, as, k1, k2, k3, k4, k5, k6, hm2⟩ := argsA_ok hkp (ys := fun i => ys (i + 1)) hm1 h1 h3 (fun i v h => hv (i + 1) v (by simpa using h))
    have hx : Ext n 0 fl1 fl2 := fun x hx => k2 x (fun h => hx (h.imp (fun h => by omega) (fun h => by omega)))
    refine ⟨ac2, fl2, a :: as, k1, h2.trans hx, by simpa [Nat.add_assoc, Nat.add_comm 1] using k3, by simp [k4], fun i a' ha => ?_, fun pl hpl => ?_, hm2⟩
    · cases i with
      | zero => simp at ha; subst ha; exact h4.ext k2
      | succ i => have := k5 i a' (by simpa using ha); rw [show n + 1 + i = n + (i + 1) by omega] at this; exact this
    rcases k6 pl hpl with hp | ⟨i, a', sz, es, q1, q2, q3⟩
    · rcases h5 pl hp with hp | ⟨q1, sz, es, q2⟩
      · exact .inl hp
      · exact .inr ⟨0, a, sz, es, rfl, by omega, q2⟩
    · exact .inr ⟨i + 1, a', sz, es, by simpa using q1, by omega, q3⟩

end
end Go.Abs

namespace Go.Abs
open Go

/-- the blocks that are handed over -/
def handX (H : Heap) : Nat → Prop := fun b => ∃ (x : K) (q : Path) (sz : Nat) (es : List (List T)) (h : Hdr), H.at (.inr x) q sz es h ∧ h.cap ≠ 0 ∧ h.b = b

def entryHd (fl : K → Option HRow) : K → Path → Hdr := fun x => match fl x with
  | some r => r.hd
  | none => fun _ => ⟨0, 0, 0⟩

theorem entryCs_get : ∀ (ts : List T) (n j i : Nat) (c : C), (entryCs n j ts)[i]? = some c → ∃ t, ts[i]? = some t ∧ c = entryC n (j + i) t
  | [], n, j, i, c, h => by simp [entryCs] at h
  | t :: ts, n, j, 0, c, h => by simp [entryCs] at h; exact ⟨t, rfl, h.symm⟩
  | t :: ts, n, j, i + 1, c, h => by
    obtain ⟨t', h1, h2⟩ := entryCs_get ts n (j + 1) i c (by simpa [entryCs] using h)
    exact ⟨t', by simpa using h1, by rw [h2]; congr 1; omega⟩
theorem entryCs_length : ∀ (ts : List T) (n j : Nat), (entryCs n j ts).length = ts.length
  | [], n, j => rfl
  | t :: ts, n, j => by simp [entryCs, entryCs_length ts]

section
variable {P : Program} {cx : Cx} {n0 : Nat} {st : St} {Hd : K → Path → Hdr} {a : Act} {w : World} {Kc : Ws → Prop}

theorem EArg.cell {fl : K → Option HRow} {n : Nat} {a : A} {y : Value} (h : EArg w fl n a y) {j sz : Nat} {es : List (List T)} (hj : a.ts[j]? = some (.s true sz es)) : ∃ hd, fl (n, j) = some ⟨sz, es, hd⟩ := by
  cases a with
  | c t =>
    cases j with
    | succ j => simp [A.ts] at hj
    | zero => simp [A.ts] at hj; subst hj; obtain ⟨hd, _, _, h1, _⟩ := h; exact ⟨hd, h1⟩
  | a ts =>
    obtain ⟨ys, rfl, hl, h3⟩ := h
    simp only [A.ts] at hj
    have hjl := (List.getElem?_eq_some_iff.1 hj).1
    have hy : ys[j]? = some ys[j] := Array.getElem?_eq_getElem (by omega)
    obtain ⟨hd, _, _, h1, _⟩ := h3 j _ _ hj hy
    exact ⟨hd, h1⟩
  | q _ _ _ _ => simp [A.ts] at hj
  | f _ _ => simp [A.ts] at hj

theorem entry_cell {fl : K → Option HRow} {as cas : List A} {ys zs : Nat → Value} (hargs : ∀ (i : Nat) (a : A), as[i]? = some a → EArg w fl i a (ys i)) (hcaps : ∀ (i : Nat) (a : A), cas[i]? = some a → ECap w a (zs i)) {x : K} {sz : Nat} {es : List (List T)}
    (h : cellOf (as ++ cas) x = some (sz, es)) : ∃ hd, fl x = some ⟨sz, es, hd⟩ := by
  unfold cellOf at h
  split at h
  · rename_i a ha
    split at h
    · rename_i sz' es' hts
      simp only [Option.some.injEq, Prod.mk.injEq] at h
      obtain ⟨rfl, rfl⟩ := h
      by_cases hlt : x.1 < as.length
      · rw [List.getElem?_append_left hlt] at ha
        exact (hargs _ _ ha).cell hts
      · rw [List.getElem?_append_right (by omega)] at ha
        have := hcaps _ _ ha
        cases a <;> simp only [ECap] at this
        simp [A.ts] at hts
    · simp at h
  · simp at h

theorem Bor.noX_to {X' : Nat → Prop} (hX : ∀ b, ¬ X' b) {y : Value} {sz : Nat} {es : List (List T)} (h : Bor w noX y sz es) : Bor w X' y sz es := by
  have : X' = noX := by funext b; exact propext ⟨fun h => (hX b h).elim, fun h => h.elim⟩
  rw [this]; exact h

theorem ECell.cok {fl : K → Option HRow} {n j : Nat} {t : T} {y : Value} {X' : Nat → Prop} {st' : St} (h : ECell w fl n j t y) (hX : (∀ b, ¬ X' b) ∨ t.plain = true) (hst : ∀ sz es, t = .s true sz es → st' (.k (n, j)) = .e ⟨0, sz, es⟩) : COK ⟨w, X', fun _ => none⟩ st' (entryHd fl) (entryC n j t) y := by
  cases t with
  | v x => cases h; exact .v _
  | d => exact .u _
  | s own sz es =>
    cases own with
    | false =>
      rcases hX with hX | hX
      · exact .b _ _ _ (Bor.noX_to hX h)
      · simp [T.plain] at hX
    | true =>
      obtain ⟨hd, a, cap, h1, rfl, h3, h4⟩ := h
      have h5 := hst sz es rfl
      refine .r _ _ _ _ _ _ _ ⟨by rw [h5]; simp, fun e he => by rw [h5] at he; obtain rfl := X.e.inj he; exact Nat.le_refl _⟩ h3 (fun sz' es' g hv => ?_)
      obtain ⟨e, q1, _, q3, q4⟩ := hv
      rw [h5] at q1
      obtain rfl := X.e.inj q1
      simp only [rowAt, Option.some.injEq, Prod.mk.injEq] at q3
      obtain ⟨rfl, rfl⟩ := q3
      have : entryHd fl (n, j) = hd := by simp [entryHd, h1]
      rw [this] at q4
      subst q4
      exact ⟨by omega, fun hc => ⟨by rw [(h4 hc).1]; simp, by have := (h4 hc).2; omega⟩⟩

theorem ECap.vok {a : A} {y : Value} {X' : Nat → Prop} {st' : St} {Hd' : K → Path → Hdr} (h : ECap w a y) (hX : ∀ b, ¬ X' b) : VOK ⟨w, X', fun _ => none⟩ st' Hd' (entryCap a) y := by
  cases a with
  | q sz es i off => obtain ⟨b, o, cap, rfl, h2, h3⟩ := h; exact .q _ _ _ _ _ _ _ (Bor.noX_to hX h2) h3
  | c _ => exact h.elim
  | a _ => exact h.elim
  | f _ _ => exact h.elim

theorem cellOf_at {as : List A} {n j sz : Nat} {es : List (List T)} {a : A} (ha : as[n]? = some a) (hj : a.ts[j]? = some (.s true sz es)) : entrySt as (.k (n, j)) = .e ⟨0, sz, es⟩ := by
  have : cellOf as (n, j) = some (sz, es) := by simp only [cellOf, ha, hj]
  simp [entrySt, this]

theorem entry_ok {ac : Acc} {fl : K → Option HRow} (hi : AInv cx st Hd w ac fl) {as cas : List A} {ys zs : Nat → Value} (hargs : ∀ (i : Nat) (a : A), as[i]? = some a → EArg w fl i a (ys i)) (hcaps : ∀ (i : Nat) (a : A), cas[i]? = some a → ECap w a (zs i))
    (hcall : callable ac.2 as cas = true) {vals : Array Value} (hv1 : ∀ i, i < as.length → vals[i]? = some (ys i)) (hv2 : ∀ i, i < cas.length → vals[as.length + i]? = some (zs i)) :
    (∀ t v, entrySt (as ++ cas) (.s t) = .v v → VOK ⟨w, handX (hkF (app ac.1 st) Hd fl), fun _ => none⟩ (entrySt (as ++ cas)) (entryHd fl) v (vals.getD t undef)) ∧ HeapOK ⟨w, handX (hkF (app ac.1 st) Hd fl), fun _ => none⟩ (HeapOf (entrySt (as ++ cas)) (entryHd fl)) w := by
  have hX : ac.2 = [] → ∀ b, ¬ handX (hkF (app ac.1 st) Hd fl) b := by
    rintro h0 b ⟨x, q, sz, es, h, ⟨r, hr, hrow, hh⟩, hc, _⟩
    rcases hi.src x r hr with ⟨h1, h2⟩ | ⟨pl, hpl, _⟩
    · rw [← hh, h2 q] at hc; exact hc rfl
    · rw [h0] at hpl; simp at hpl
  refine ⟨fun t v hv => ?_, ?_⟩
  · simp only [entrySt] at hv
    split at hv
    · rename_i a ha
      obtain rfl := X.v.inj hv
      by_cases hlt : t < as.length
      · have ha' := ha
        rw [List.getElem?_append_left hlt] at ha
        have hE := hargs t a ha
        rw [Array.getD_eq_getD_getElem?, hv1 t hlt, Option.getD_some]
        have hpl : (∀ b, ¬ handX (hkF (app ac.1 st) Hd fl) b) ∨ (a.plain = true) := by
          cases hp : ac.2 with
          | nil => exact .inl (hX hp)
          | cons pl pls =>
            rw [hp] at hcall
            simp only [callable, Bool.and_eq_true] at hcall
            exact .inr (List.all_eq_true.1 hcall.1.1 a (List.mem_of_getElem? ha))
        cases a with
        | c t' => exact .c _ _ (ECell.cok hE (hpl.imp id fun h => h) (fun sz es h => cellOf_at ha' (by simp [A.ts, h])))
        | a ts =>
          obtain ⟨yy, hy, hl, h3⟩ := hE
          rw [hy]
          refine .a _ _ (by rw [entryCs_length]; exact hl) (fun i c y hc hy => ?_)
          obtain ⟨t', h4, rfl⟩ := entryCs_get _ _ _ _ _ hc
          rw [Nat.zero_add]
          exact ECell.cok (h3 i t' y h4 hy) (hpl.imp id fun h => List.all_eq_true.1 h t' (List.mem_of_getElem? h4)) (fun sz es h => cellOf_at ha' (by simp [A.ts, h4, h]))
        | q sz es i off =>
          rcases hpl with hpl | hpl
          · obtain ⟨b, o, cap, h1, h2, h3⟩ := hE; rw [h1]; exact .q _ _ _ _ _ _ _ (Bor.noX_to hpl h2) h3
          · simp [A.plain] at hpl
        | f fn caps =>
          rcases hpl with hpl | hpl
          · obtain ⟨yy, h1, h2, h3⟩ := hE
            rw [h1]
            refine .f _ _ _ (by simpa using h2) (fun i v y hv hy => ?_)
            rw [List.getElem?_map] at hv
            cases hca : caps[i]? with
            | none => simp [hca] at hv
            | some ca =>
              rw [hca] at hv
              simp only [Option.map_some, Option.some.injEq] at hv
              subst hv
              exact (h3 i ca y hca hy).vok hpl
          · simp [A.plain] at hpl
      · rw [List.getElem?_append_right (by omega)] at ha
        have hcl := (List.getElem?_eq_some_iff.1 ha).1
        have hE := hcaps _ a ha
        have h5 := hv2 _ hcl
        rw [show as.length + (t - as.length) = t by omega] at h5
        rw [Array.getD_eq_getD_getElem?, h5, Option.getD_some]
        have hpl : ∀ b, ¬ handX (hkF (app ac.1 st) Hd fl) b := by
          cases hp : ac.2 with
          | nil => exact hX hp
          | cons pl pls =>
            rw [hp] at hcall
            simp only [callable, Bool.and_eq_true] at hcall
            have h6 : cas = [] := by simpa using hcall.1.2
            rw [h6] at hcl; simp at hcl
        cases a with
        | q sz es i off => exact hE.vok hpl
        | c _ => exact hE.elim
        | a _ => exact hE.elim
        | f _ _ => exact hE.elim
    · simp at hv
  · have hcell : ∀ (i : Ix) (r : HRow), HeapOf (entrySt (as ++ cas)) (entryHd fl) i = some r → ∃ x, i = .inl x ∧ hkF (app ac.1 st) Hd fl (.inr x) = some r := by
      intro i r hir
      cases i with
      | inr x => simp [HeapOf] at hir
      | inl x =>
        refine ⟨x, rfl, ?_⟩
        cases hc : cellOf (as ++ cas) x with
        | none => simp [HeapOf, entrySt, hc] at hir
        | some z =>
          obtain ⟨sz, es⟩ := z
          obtain ⟨hd, h1⟩ := entry_cell hargs hcaps hc
          have h2 : entryHd fl x = hd := by simp [entryHd, h1]
          simp only [HeapOf, entrySt, hc, h2, Option.some.injEq] at hir
          rw [← hir]
          exact h1
    refine (hi.heap.reindex (H' := HeapOf (entrySt (as ++ cas)) (entryHd fl)) (fun | .inl x => .inr x | .inr x => .inl x) (fun i r hir => ?_) (fun i j r s hi' hj' hE => ?_)).rebase (fun i r hir => ?_) (fun i p sz es h hat hc => ?_)
    · obtain ⟨x, rfl, h1⟩ := hcell i r hir; exact h1
    · obtain ⟨x, rfl, h1⟩ := hcell i r hi'
      obtain ⟨y, rfl, h2⟩ := hcell j s hj'
      simp only [Sum.inr.injEq] at hE
      rw [hE]
    · obtain ⟨x, rfl, h1⟩ := hcell i r hir
      exact hi.own x r h1
    · obtain ⟨r, hir, hrow, hh⟩ := hat
      obtain ⟨x, rfl, h1⟩ := hcell i r hir
      exact .inr ⟨x, p, sz, es, h, ⟨r, h1, hrow, hh⟩, hc, rfl⟩

/-- floats behind a call: what came back, and the results -/
def exitFl (fin res : List A) (Hd2 : Ix → Path → Hdr) : K → Option HRow := fun x =>
  if x.2 % 2 = 0 then exitHeap fin res Hd2 (.inl (x.1, x.2 / 2)) else exitHeap fin res Hd2 (.inr (x.1, x.2 / 2))

theorem exit_own {fin res : List A} (hf : finOK fin = true) (hr : resOK res = true) (Hd2 : Ix → Path → Hdr) (i : Ix) (r : HRow) (h : exitHeap fin res Hd2 i = some r) : ownEs r.es = true := by
  cases i with
  | inl k =>
    simp only [exitHeap] at h
    cases hc : cellOf fin k with
    | none => simp [hc] at h
    | some z =>
      obtain ⟨sz, es⟩ := z
      simp only [hc, Option.map_some, Option.some.injEq] at h
      subst h
      unfold cellOf at hc
      split at hc
      · rename_i a ha
        split at hc
        · rename_i sz' es' ht
          simp only [Option.some.injEq, Prod.mk.injEq] at hc
          obtain ⟨rfl, rfl⟩ := hc
          have h1 := List.all_eq_true.1 hf a (List.mem_of_getElem? ha)
          exact List.all_eq_true.1 h1 _ (List.mem_of_getElem? ht)
        · simp at hc
      · simp at hc
  | inr k =>
    simp only [exitHeap] at h
    cases hc : cellOf res k with
    | none => simp [hc] at h
    | some z =>
      obtain ⟨sz, es⟩ := z
      simp only [hc, Option.map_some, Option.some.injEq] at h
      subst h
      unfold cellOf at hc
      split at hc
      · rename_i a ha
        split at hc
        · rename_i sz' es' ht
          simp only [Option.some.injEq, Prod.mk.injEq] at hc
          obtain ⟨rfl, rfl⟩ := hc
          have h1 := List.all_eq_true.1 hr a (List.mem_of_getElem? ha)
          have := ownE_at h1 ht
          simpa [ownT] using this
        · simp at hc
      · simp at hc

theorem exit_ok (hkp : Keep cx w) {st1 : St} {fl : K → Option HRow} (hk : HeapOK cx (hkF st1 Hd fl) w) {fin res : List A} (hf : finOK fin = true) (hr : resOK res = true) {Hd2 : Ix → Path → Hdr} {w' : World}
    (he : HeapOK ⟨w, handX (hkF st1 Hd fl), fun _ => none⟩ (exitHeap fin res Hd2) w') (hk2 : Keep ⟨w, handX (hkF st1 Hd fl), fun _ => none⟩ w') :
    HeapOK cx (hkF st1 Hd (exitFl fin res Hd2)) w' ∧ Keep cx w' ∧ (∀ k p sz es h, (hkF st1 Hd fl).at (.inl k) p sz es h → h.cap ≠ 0 → w'.heap[h.b]? = w.heap[h.b]?) := by
  have hA : ∀ {k p sz es h}, (hkF st1 Hd fl).at (.inl k) p sz es h → h.cap ≠ 0 → h.b < w.heap.size ∧ ¬ handX (hkF st1 Hd fl) h.b := by
    intro k p sz es h hat hc
    refine ⟨(hk.blk _ _ _ _ _ hat hc).1, ?_⟩
    rintro ⟨x, q, sz', es', h', hat', hc', hE⟩
    have := (hk.inj _ _ _ _ _ _ _ _ _ _ hat hat' hc hc' hE.symm).1
    simp at this
  have hXc : ∀ b, handX (hkF st1 Hd fl) b → b < w.heap.size ∧ (cx.w0.heap.size ≤ b ∨ cx.X b) := by
    rintro b ⟨x, q, sz', es', h', hat', hc', rfl⟩
    exact hk.blk _ _ _ _ _ hat' hc'
  have hsz : w.heap.size ≤ w'.heap.size := hk2.size
  have hsame : ∀ k p sz es h, (hkF st1 Hd fl).at (.inl k) p sz es h → h.cap ≠ 0 → w'.heap[h.b]? = w.heap[h.b]? := by
    intro k p sz es h hat hc
    obtain ⟨h1, h2⟩ := hA hat hc
    exact hk2.block _ h1 h2
  have hkeep : Keep cx w' := by
    refine ⟨hk2.os.trans hkp.os, hk2.tape.trans hkp.tape, hk2.output.trans hkp.output, Nat.le_trans hkp.size hsz, fun b hb hX => ?_⟩
    have h1 := hkp.size
    rw [hk2.block b (show b < w.heap.size by omega) (fun h => by rcases (hXc b h).2 with h | h; omega; exact hX h)]
    exact hkp.block b hb hX
  refine ⟨?_, hkeep, hsame⟩
  have hleft : HeapOK cx (hkF st1 Hd fun _ => none) w' := by
    refine (hk.less (H' := hkF st1 Hd fun _ => none) (fun i r hir => ?_)).moved hsz (fun i p sz es h hat hc => ?_)
    · cases i with
      | inl k => exact hir
      | inr x => simp [hkF] at hir
    · obtain ⟨r, hir, hrow, hh⟩ := hat
      cases i with
      | inl k => exact hsame k p sz es h ⟨r, hir, hrow, hh⟩ hc
      | inr x => simp [hkF] at hir
  have hE : HeapOK cx (exitHeap fin res Hd2) w' := by
    refine he.rebase (exit_own hf hr Hd2) (fun i p sz es h hat hc => ?_)
    rcases (he.blk _ _ _ _ _ hat hc).2 with h1 | h1
    · left
      have h2 : w.heap.size ≤ h.b := h1
      have := hkp.size
      omega
    · exact (hXc _ h1).2
  have hright : HeapOK cx (fun i => match i with | .inl _ => none | .inr x => exitFl fin res Hd2 x : Heap) w' := by
    refine hE.reindex (fun i => match i with | .inl x => .inl x | .inr x => if x.2 % 2 = 0 then .inl (x.1, x.2 / 2) else .inr (x.1, x.2 / 2)) (fun i r hir => ?_) (fun i j r s hi hj hE => ?_)
    · cases i with
      | inl k => simp at hir
      | inr x =>
        simp only [exitFl] at hir ⊢
        split at hir
        · rename_i h; rw [if_pos h]; exact hir
        · rename_i h; rw [if_neg h]; exact hir
    · cases i with
      | inl k => simp at hi
      | inr x =>
        cases j with
        | inl k => simp at hj
        | inr y =>
          obtain ⟨x1, x2⟩ := x
          obtain ⟨y1, y2⟩ := y
          simp only [] at hE
          split at hE <;> split at hE <;> simp only [Sum.inl.injEq, Sum.inr.injEq, Prod.mk.injEq, reduceCtorEq] at hE
          · obtain ⟨rfl, h2⟩ := hE
            congr 2; omega
          · obtain ⟨rfl, h2⟩ := hE
            congr 2; omega
  refine hleft.union hright (fun i r hir => ?_) (fun i p sz es g i' p' sz' es' g' h1 h2 hc hc' hEq => ?_)
  · cases i with
    | inl k => exact .inl hir
    | inr x => exact .inr hir
  · obtain ⟨r, hir, hrow, hh⟩ := h1
    cases i with
    | inr x => simp [hkF] at hir
    | inl k =>
      obtain ⟨q1, q2⟩ := hA (⟨r, hir, hrow, hh⟩ : (hkF st1 Hd fl).at (.inl k) p sz es g) hc
      obtain ⟨r', hir', hrow', hh'⟩ := h2
      cases i' with
      | inl k' => simp at hir'
      | inr x =>
        have hat2 : ∃ i2, (exitHeap fin res Hd2).at i2 p' sz' es' g' := by
          simp only [exitFl] at hir'
          split at hir'
          · exact ⟨_, r', hir', hrow', hh'⟩
          · exact ⟨_, r', hir', hrow', hh'⟩
        obtain ⟨i2, hat2⟩ := hat2
        rcases (he.blk _ _ _ _ _ hat2 hc').2 with h3 | h3
        · have h4 : w.heap.size ≤ g'.b := h3
          omega
        · rw [hEq] at q2; exact q2 h3

end
end Go.Abs

/- A part of the machine by itself. No condition. -/
import Derived.Test.YtijifinpifomcaaGreatMachFive
set_option linter.unusedVariables false
set_option linter.unusedSimpArgs false
set_option linter.constructorNameAsVariable false
set_option linter.unusedSectionVars false
namespace Go.Abs
open Go
variable [Amb]
section
variable {P : Program} {md : Nat → Nat → Bool} {cx : Cx} {n np : Nat} {st : St} {ops : Array Oper} {Q : Exit → Act → World → Prop}
theorem any_okX {wss : Nat → Ws} {fs : List Foot} {INV : St → Prop} (hfl : fs.length = ops.size)
    (hspec : ∀ (b : Nat → Bool), Closed ops b → ∀ i, i < ops.size → (∀ o, ops[i]? = some o → ∀ e ∈ o.after.toList, Region.binds .any e = true → b e.on = true) → ∀ j, j < i → b j = false → ∃ f g, fs[i]? = some f ∧ fs[j]? = some g ∧ disjoint f.w g.w = true ∧ disjoint f.r g.w = true ∧ disjoint f.w g.r = true)
    (hback : ∀ i o, ops[i]? = some o → ∀ e ∈ o.after.toList, Region.binds .any e = true → e.on < i)
    (hfw : ∀ j, j < ops.size → ∃ f, fs[j]? = some f ∧ f.w = (wss j).map (·.1)) (hinv : ∀ b, INV (stOf wss b ops.size st))
    (hrun : ∀ (j : Nat) (o : Oper), ops[j]? = some o → ∃ f, fs[j]? = some f ∧ ∀ st' Hd a w, INV st' → (∀ l, l ∈ f.r → st' l = stOf wss (fun _ => true) j st l) → Rel cx n st' Hd a w → ∀ KC : Act → World → Prop, (∀ Hd' a' w', Rel cx n (app (wss j) st') Hd' a' w' → KC a' w') → Step P ops o a w KC Q)
    (hQ : ∀ Hd' a' w', Rel cx n (stOf wss (fun _ => true) ops.size st) Hd' a' w' → Q .normal a' w') :
    ∀ (fuel : Nat) (listed : Array Bool) (Hd : K → Path → Hdr) (a : Act) (w : World), listed.size = ops.size → Closed ops (fun j => listed.getD j true) → Rel cx n (stOf wss (fun j => listed.getD j true) ops.size st) Hd a w →
      (List.range ops.size).countP (fun j => !listed.getD j true) ≤ fuel → wpAny P .any ops Q fuel listed a w := by
  have hready : ∀ (listed : Array Bool), listed.size = ops.size → Region.ready .any ops listed = [] → ∀ j, j < ops.size → listed.getD j true = true := by
    intro listed hls hr j
    induction j using Nat.strongRecOn with
    | _ j ih =>
      intro hj
      cases hlj : listed.getD j true with
      | true => rfl
      | false =>
        have ho : ops[j]? = some ops[j] := Array.getElem?_eq_getElem hj
        have : j ∈ Region.ready .any ops listed := by
          refine List.mem_filter.2 ⟨List.mem_range.2 hj, ?_⟩
          simp only [hlj, ho, Bool.not_false, Option.map_some, Option.getD_some, Bool.true_and]
          rw [← Array.all_toList]
          refine List.all_eq_true.2 (fun e he => ?_)
          by_cases hbe : Region.binds .any e = true
          · have hlt := hback j _ ho e he hbe
            have := ih e.on hlt (by omega)
            have h2 : e.on < listed.size := by omega
            simp only [Array.getD_eq_getD_getElem?, Array.getElem?_eq_getElem h2, Option.getD_some] at this ⊢
            simp [hbe, this]
          · simp [hbe]
        rw [hr] at this
        simp at this
  intro fuel
  induction fuel with
  | zero =>
    intro listed Hd a w hls hcl hr hcount
    have hall : ∀ j, j < ops.size → listed.getD j true = true := by
      intro j hj
      have h1 : (List.range ops.size).countP (fun j => !listed.getD j true) = 0 := by omega
      have := List.countP_eq_zero.1 h1 j (List.mem_range.2 hj)
      simpa using this
    refine ⟨?_, hQ Hd a w (by rw [← stOf_all ops.size (fun j hj => hall j hj)]; exact hr)⟩
    refine List.filter_eq_nil_iff.2 (fun j hj => ?_)
    rw [hall j (List.mem_range.1 hj)]
    simp
  | succ fuel ih =>
    intro listed Hd a w hls hcl hr hcount
    refine ⟨fun hre => hQ Hd a w (by rw [← stOf_all ops.size (fun j hj => hready listed hls hre j hj)]; exact hr), fun i hi => ?_⟩
    obtain ⟨hi1, hi2⟩ := List.mem_filter.1 hi
    have hil := List.mem_range.1 hi1
    have ho : ops[i]? = some ops[i] := Array.getElem?_eq_getElem hil
    rw [Bool.and_eq_true] at hi2
    have hbi : listed.getD i true = false := by simpa using hi2.1
    have hed : ∀ o, ops[i]? = some o → ∀ e ∈ o.after.toList, Region.binds .any e = true → listed.getD e.on true = true := by
      intro o ho' e he hbe
      have h2 := hi2.2
      simp only [ho', Option.map_some, Option.getD_some] at h2
      rw [← Array.all_toList] at h2
      have h3 := List.all_eq_true.1 h2 e he
      have h4 : listed.getD e.on false = true := by simpa [hbe] using h3
      by_cases h5 : e.on < listed.size
      · simp only [Array.getD_eq_getD_getElem?, Array.getElem?_eq_getElem h5, Option.getD_some] at h4 ⊢; exact h4
      · simp [Array.getD_eq_getD_getElem?, Array.getElem?_eq_none (by omega : listed.size ≤ e.on)] at h4
    obtain ⟨f, hf, hf2⟩ := hrun i _ ho
    have hag : ∀ l, l ∈ f.r → stOf wss (fun j => listed.getD j true) ops.size st l = stOf wss (fun _ => true) i st l := by
      intro l hl
      rw [← stOf_lt ops.size (by omega)]
      refine stOf_agree _ (fun j hj hne => ?_)
      obtain ⟨g, hg, hgw⟩ := hfw j hj
      rw [← hgw]
      by_cases hji : j < i
      · have hbj : listed.getD j true = false := by
          cases h : listed.getD j true with
          | false => rfl
          | true => simp [h, hji] at hne
        obtain ⟨f', g', q1, q2, q3, q4, q5⟩ := hspec _ hcl i hil hed j hji hbj
        rw [hf] at q1; rw [hg] at q2
        obtain rfl := Option.some.inj q1
        obtain rfl := Option.some.inj q2
        exact disjoint_iff q4 hl
      · have hbj : listed.getD j true = true := by
          cases h : listed.getD j true with
          | true => rfl
          | false => simp [h, hji] at hne
        have hij : i < j := by
          rcases Nat.lt_or_ge i j with h | h
          · exact h
          · obtain rfl : i = j := by omega
            rw [hbi] at hbj; simp at hbj
        obtain ⟨g', f', q1, q2, q3, q4, q5⟩ := hspec _ hcl j hj (fun o ho' => hcl j o ho' hbj) i hij hbi
        rw [hg] at q1; rw [hf] at q2
        obtain rfl := Option.some.inj q1
        obtain rfl := Option.some.inj q2
        intro hin
        exact disjoint_iff q5 hin hl
    have hins : app (wss i) (stOf wss (fun j => listed.getD j true) ops.size st) = stOf wss (fun j => (listed.setIfInBounds i true).getD j true) ops.size st := by
      rw [stOf_insert hbi ops.size hil (fun j hij hj hbj l hl => ?_)]
      · refine stOf_congr _ (fun j hj => ?_)
        by_cases hji : j = i
        · subst hji
          simp [Array.getD_eq_getD_getElem?, hls, hil]
        · rw [if_neg hji]
          simp only [Array.getD_eq_getD_getElem?, Array.getElem?_setIfInBounds_ne (fun e => hji e.symm)]
      · obtain ⟨g, hg, hgw⟩ := hfw j hj
        obtain ⟨f0, hf0, hfw0⟩ := hfw i hil
        obtain ⟨g', f', q1, q2, q3, q4, q5⟩ := hspec _ hcl j hj (fun o ho' => hcl j o ho' hbj) i hij hbi
        rw [hg] at q1; rw [hf0] at q2
        obtain rfl := Option.some.inj q1
        obtain rfl := Option.some.inj q2
        rw [← hgw]
        intro hin
        rw [← hfw0] at hl
        exact disjoint_iff q3 hin hl
    have hstep := hf2 _ Hd a w (hinv _) hag hr (fun a' w' => wpAny P .any ops Q fuel (listed.setIfInBounds i true) a' w') (fun Hd' a' w' hr' => by
      rw [hins] at hr'
      refine ih _ Hd' a' w' (by simpa using hls) (fun j o ho' hbj e he hbe => ?_) hr' ?_
      · by_cases hji : j = i
        · subst hji
          have h1 := hed o ho' e he hbe
          have hlt := hback j o ho' e he hbe
          simp only [Array.getD_eq_getD_getElem?] at h1 ⊢
          rw [Array.getElem?_setIfInBounds_ne (by omega)]
          exact h1
        · have h0 : listed.getD j true = true := by
            simp only [Array.getD_eq_getD_getElem?] at hbj ⊢
            rw [Array.getElem?_setIfInBounds_ne (fun e => hji e.symm)] at hbj
            exact hbj
          have h1 := hcl j o ho' h0 e he hbe
          by_cases hei : e.on = i
          · rw [hei]; simp [Array.getD_eq_getD_getElem?, hls, hil]
          · simp only [Array.getD_eq_getD_getElem?] at h1 ⊢
            rw [Array.getElem?_setIfInBounds_ne (fun e => hei e.symm)]
            exact h1
      · have hlt : (List.range ops.size).countP (fun j => !(listed.setIfInBounds i true).getD j true) < (List.range ops.size).countP (fun j => !listed.getD j true) := by
          refine countP_lt (i := i) (fun j hj => ?_) (by simp [hbi]) (by simp [Array.getD_eq_getD_getElem?, hls, hil]) _ hi1
          by_cases hji : j = i
          · subst hji; simp [hbi]
          · simp only [Array.getD_eq_getD_getElem?] at hj ⊢
            rw [Array.getElem?_setIfInBounds_ne (fun e => hji e.symm)] at hj
            exact hj
        omega)
    unfold wpOp
    simp only [ho]
    exact hstep
end
theorem told_row {sz0 : Nat} {es0 : List (List T)} {a b : Nat} {t : T} (ht : ∀ z zs, t ≠ .s true z zs) (p : Path) (sz : Nat) (es : List (List T)) (h : rowAt sz0 (setCell es0 a b t) p = some (sz, es)) :
    ∃ es1, rowAt sz0 es0 p = some (sz, es1) ∧ es1.length = es.length := by
  rcases rowAt_setCellAt (r := ⟨sz0, es0, fun _ => ⟨0, 0, 0⟩⟩) (p := []) (sz := sz0) (es := es0) rfl ht p sz es h with ⟨rfl, rfl, rfl⟩ | ⟨_, e1, h0, hl, _, _⟩
  · exact ⟨es0, rfl, (setCell_length _ _ _ _).symm⟩
  · exact ⟨e1, h0, hl.symm⟩
theorem detach_rel {w0 : World} {XX : Nat → Prop} {H : K → Option Hdr} {n : Nat} {st : St} {Hd : K → Path → Hdr} {a : Act} {w : World} (h : Rel ⟨w0, XX, H⟩ n st Hd a w) {kk k' : K} {e : Ent} {j z : Nat} {zs : List (List T)} (he : st (.k kk) = .e e) (hc : cellAt e.es 0 j = some (.s true z zs)) (hf : st (.k k') = .none) (hnew : H k' = none) :
    ∃ x Hd', Raw (updH H k' (Hd' k' [])) k' x zs.length ∧ Rel ⟨w0, XX, updH H k' (Hd' k' [])⟩ n (app [(.k k', .e ⟨0, z, zs⟩), (.k kk, .e { e with es := setCell e.es 0 j (.v x) })] st) Hd' a w := by
  have hne : kk ≠ k' := by rintro rfl; rw [he] at hf; cases hf
  have hi : HeapOf st Hd (.inl kk) = some ⟨e.sz, e.es, Hd kk⟩ := HeapOf_some he
  have hfn : HeapOf st Hd (.inl k') = none := by simp [HeapOf, hf]
  have hrow := h.heap.row hi (show rowAt e.sz e.es [] = some (e.sz, e.es) from rfl)
  obtain ⟨el, hel, hcl⟩ : ∃ el, e.es[0]? = some el ∧ el[j]? = some (.s true z zs) := by
    unfold cellAt at hc
    cases hq : e.es[0]? with
    | none => simp [hq] at hc
    | some el => rw [hq] at hc; exact ⟨el, rfl, hc⟩
  have hcap : (Hd kk []).cap ≠ 0 := cap_ne hrow hel
  obtain ⟨c, E, k1, k2, k3⟩ := hrow.2 hcap
  obtain ⟨x, hx, hT⟩ := (k3 0 el hel).2 j _ hcl
  have hzrow := (h.heap.rows (.inl kk) ⟨e.sz, e.es, Hd kk⟩ [(0, j)] z zs hi (by simp only [rowAt, hc])).1
  obtain ⟨ad, rfl, had⟩ := hT
  have h1 := h.heap.detach (i := .inl kk) (i2 := .inl k') (p := []) (a := 0) (b := j) hi rfl hfn hc
  have h2 := h1.refine (i := .inl kk) (r := ⟨e.sz, setCell e.es 0 j .d, Hd kk⟩) (p := []) (sz := e.sz) (es := setCell e.es 0 j .d) (a := 0) (b := j) (t := .v (.slice ad zs.length (Hd kk [(0, j)]).cap)) (y := .slice ad zs.length (Hd kk [(0, j)]).cap)
    (by rw [Heap.set_ne _ _ (fun q => hne (Sum.inl.inj q)), Heap.set_same]; rfl) rfl (fun e' _ => by
      have : w.cell? ⟨(Hd kk []).b, (Hd kk []).o + (0 * e.sz + j), none⟩ = some (.slice ad zs.length (Hd kk [(0, j)]).cap) := by
        simp only [World.cell?, k1]
        exact hx
      exact this) (fun _ _ => by simp) (fun _ => rfl)
  refine ⟨_, fun k => if k = k' then (fun q => Hd kk ((0, j) :: q)) else Hd k, ⟨ad, (Hd kk [(0, j)]).cap, _, rfl, updH_same, hzrow, fun hc0 => ?_⟩, ?_⟩
  · simp only [if_true]
    exact ⟨had hc0, Nat.le_refl _⟩
  have hst1 : app [(.k k', .e ⟨0, z, zs⟩), (.k kk, .e { e with es := setCell e.es 0 j (.v (.slice ad zs.length (Hd kk [(0, j)]).cap)) })] st (.k k') = .e ⟨0, z, zs⟩ := by simp [app, ovl]
  have hst2 : app [(.k k', .e ⟨0, z, zs⟩), (.k kk, .e { e with es := setCell e.es 0 j (.v (.slice ad zs.length (Hd kk [(0, j)]).cap)) })] st (.k kk) = .e { e with es := setCell e.es 0 j (.v (.slice ad zs.length (Hd kk [(0, j)]).cap)) } := by
    simp [app, ovl, hne]
  have hst3 : ∀ k, k ≠ k' → k ≠ kk → app [(.k k', .e ⟨0, z, zs⟩), (.k kk, .e { e with es := setCell e.es 0 j (.v (.slice ad zs.length (Hd kk [(0, j)]).cap)) })] st (.k k) = st (.k k) := by
    intro k q1 q2
    simp [app, ovl, q1, q2]
  have hst4 : ∀ t, app [(.k k', .e ⟨0, z, zs⟩), (.k kk, .e { e with es := setCell e.es 0 j (.v (.slice ad zs.length (Hd kk [(0, j)]).cap)) })] st (.s t) = st (.s t) := fun t => by simp [app, ovl]
  generalize hS : app [(.k k', .e ⟨0, z, zs⟩), (.k kk, .e { e with es := setCell e.es 0 j (.v (.slice ad zs.length (Hd kk [(0, j)]).cap)) })] st = st2 at hst1 hst2 hst3 hst4 ⊢
  have hkn : ∀ k ver, known st k ver → known st2 k ver := by
    intro k ver hk
    have hk1 : k ≠ k' := by rintro rfl; exact hk.1 hf
    by_cases hk2 : k = kk
    · subst hk2
      refine ⟨by rw [hst2]; simp, fun e' he' => ?_⟩
      rw [hst2] at he'
      obtain rfl := X.e.inj he'
      exact hk.2 e he
    · unfold known at *
      rw [hst3 k hk1 hk2]; exact hk
  have hva : ∀ k ver p sz es g, known st k ver → valid st2 (fun k => if k = k' then (fun q => Hd kk ((0, j) :: q)) else Hd k) k ver p sz es g → ∃ es0, valid st Hd k ver p sz es0 g ∧ es0.length = es.length := by
    intro k ver p sz es g hk hv
    have hk1 : k ≠ k' := by rintro rfl; exact hk.1 hf
    obtain ⟨e', q1, q2, q3, q4⟩ := hv
    simp only [if_neg hk1] at q4
    by_cases hk2 : k = kk
    · subst hk2
      rw [hst2] at q1
      obtain rfl := X.e.inj q1
      obtain ⟨es1, r1, r2⟩ := told_row (fun _ _ => by simp) p sz es q3
      exact ⟨es1, ⟨e, he, q2, r1, q4⟩, r2⟩
    · rw [hst3 k hk1 hk2] at q1
      exact ⟨es, ⟨e', q1, q2, q3, q4⟩, rfl⟩
  refine ⟨h.defers, h.size, fun t v hv => ?_, ?_, ⟨h.keep.os, h.keep.tape, h.keep.output, h.keep.size, h.keep.block⟩, fun k hh hk => ?_, h.amb⟩
  · rw [hst4] at hv
    obtain ⟨r1, r2⟩ := h.slots t v hv
    exact ⟨r1, (r2.mono hkn hva).cx⟩
  · have hE : HeapOf st2 (fun k => if k = k' then (fun q => Hd kk ((0, j) :: q)) else Hd k) = ((Heap.set ((HeapOf st Hd).set (.inl kk) (some ⟨e.sz, setCell e.es 0 j .d, Hd kk⟩)) (.inl k') (some ⟨z, zs, fun q => Hd kk ((0, j) :: q)⟩)).set (.inl kk) (some ⟨e.sz, setCell e.es 0 j (.v (.slice ad zs.length (Hd kk [(0, j)]).cap)), Hd kk⟩)) := by
      funext i
      cases i with
      | inr y => rw [Heap.set_ne _ _ (by simp), Heap.set_ne _ _ (by simp), Heap.set_ne _ _ (by simp)]; rfl
      | inl k =>
        by_cases hk2 : k = kk
        · subst hk2
          rw [Heap.set_same]
          simp only [HeapOf, hst2, if_neg hne]
        · rw [Heap.set_ne _ _ (fun q => hk2 (Sum.inl.inj q))]
          by_cases hk1 : k = k'
          · subst hk1
            rw [Heap.set_same]
            simp only [HeapOf, hst1, if_true]
          · rw [Heap.set_ne _ _ (fun q => hk1 (Sum.inl.inj q)), Heap.set_ne _ _ (fun q => hk2 (Sum.inl.inj q))]
            simp only [HeapOf, hst3 k hk1 hk2, if_neg hk1]
    rw [hE]
    have h3 := h2
    simp only [setRow, setCell_setCell, List.nil_append] at h3
    exact ⟨h3.rows, h3.inj, h3.blk⟩
  · by_cases e1 : k = k'
    · subst e1
      have hk2 : updH H k ((fun q => Hd kk ((0, j) :: q)) []) k = some hh := by simpa using hk
      rw [updH_same] at hk2
      obtain rfl := Option.some.inj hk2
      exact ⟨by rw [hst1]; simp, fun e' he' => by simp⟩
    · have hk2 : H k = some hh := by
        have hk3 : updH H k' _ k = some hh := hk
        rwa [updH_ne e1] at hk3
      obtain ⟨r1, r2⟩ := h.hdr k hh hk2
      by_cases hk3 : k = kk
      · subst hk3
        exact ⟨by rw [hst2]; simp, fun e' he' => by simp only [if_neg e1]; exact r2 e he⟩
      · exact ⟨by rw [hst3 k e1 hk3]; exact r1, fun e' he' => by rw [hst3 k e1 hk3] at he'; simp only [if_neg e1]; exact r2 e' he'⟩
def KL (k : K) (len : Nat) : Ws → Prop
  | [] => True
  | (.s _, _) :: L => KL k len L
  | (.k k', x) :: L => (k' = k → ∃ e, x = .e e ∧ e.es.length = len) ∧ KL k len L
theorem KL_mem {k : K} {len : Nat} : ∀ {L : Ws}, KL k len L → ∀ x, (Loc.k k, x) ∈ L → ∃ e, x = .e e ∧ e.es.length = len
  | [], _, x, hx => by simp at hx
  | (.s t, y) :: L, h, x, hx => by
    rcases List.mem_cons.1 hx with hx | hx
    · simp at hx
    · exact KL_mem (L := L) h x hx
  | (.k k', y) :: L, h, x, hx => by
    rcases List.mem_cons.1 hx with hx | hx
    · obtain ⟨h1, rfl⟩ := Prod.mk.inj hx
      exact h.1 (Loc.k.inj h1).symm
    · exact KL_mem (L := L) h.2 x hx
def RGS (P : Program) (md : Nat → Nat → Bool) (wr : Bool) (ops : List Oper) (x : Value) (k : K) (len : Nat) : List (List Oper × Option Nat) → Ws → List Foot → (Ws → List Foot → Prop) → Prop
  | [], L, acc, K => K L acc
  | (rest, none) :: S, L, acc, K => RG P md wr true ops rest L acc fun L' acc' => RGS P md wr ops x k len S L' acc' K
  | (rest, some t) :: S, L, acc, K => rest.length = 1 ∧ RG P md wr true ops rest L acc fun L' acc' => L' = (.s t, .v (.c (.v x))) :: L ∧ RGS P md wr ops x k len S ((.s t, .v (.c (.r k 0 [] 0 len))) :: L) acc' K
theorem behL_app {a b : List Ws} {L : Ws} : behL (a ++ b) L = behL b (behL a L) := by simp [behL]
theorem RGS_run {P : Program} {md : Nat → Nat → Bool} {wr : Bool} {ops : List Oper} {x : Value} {k : K} {len : Nat} {K : Ws → List Foot → Prop} : ∀ (S : List (List Oper × Option Nat)) (L : Ws) (acc : List Foot), RGS P md wr ops x k len S L acc K →
    ∃ (wsl : List Ws) (fs : List Foot), K (behL wsl L) (acc ++ fs) ∧ wsl.length = (S.flatMap Prod.fst).length ∧ fs.map (·.w) = wsl.map (fun ws => ws.map (·.1)) ∧
      ∀ (j : Nat) (o : Oper), (S.flatMap Prod.fst)[j]? = some o → ∃ f ws, fs[j]? = some f ∧ wsl[j]? = some ws ∧ ((∀ st', (∀ l, l ∈ f.r → st' l = ofL (behL (wsl.take j) L) l) → ∀ Kc : Ws → Prop, Kc ws → (operM P md ops o).wp P st' Kc) ∨
        ∃ t, ws = [(.s t, .v (.c (.r k 0 [] 0 len)))] ∧ ∀ st', (∀ l, l ∈ f.r → st' l = ofL (behL (wsl.take j) L) l) → ∀ Kc : Ws → Prop, Kc [(.s t, .v (.c (.v x)))] → (operM P md ops o).wp P st' Kc)
  | [], L, acc, h => ⟨[], [], (by rw [List.append_nil]; exact h), rfl, rfl, fun j o h => by simp at h⟩
  | (rest, none) :: S, L, acc, h => by
    obtain ⟨w1, f1, a1, a2, a3, a4⟩ := RG_run rest L acc h
    obtain ⟨w2, f2, b1, b2, b3, b4⟩ := RGS_run S _ _ a1
    have hf1 : f1.length = w1.length := by simpa using congrArg List.length a3
    refine ⟨w1 ++ w2, f1 ++ f2, by rw [behL_app, ← List.append_assoc]; exact b1, by simp [a2, b2], by simp [a3, b3], fun j o ho => ?_⟩
    simp only [List.flatMap_cons] at ho
    by_cases hj : j < rest.length
    · rw [List.getElem?_append_left hj] at ho
      obtain ⟨f, ws, q1, q2, q3⟩ := a4 j o ho
      refine ⟨f, ws, by rw [List.getElem?_append_left (by omega)]; exact q1, by rw [List.getElem?_append_left (by omega)]; exact q2, .inl fun st' hs => q3 st' fun l hl => ?_⟩
      rw [hs l hl, List.take_append_of_le_length (by omega)]
    · rw [List.getElem?_append_right (by omega)] at ho
      obtain ⟨f, ws, q1, q2, q3⟩ := b4 _ o ho
      have e1 : (w1 ++ w2).take j = w1 ++ w2.take (j - rest.length) := by
        rw [List.take_append, List.take_of_length_le (by omega), a2]
      refine ⟨f, ws, by rw [List.getElem?_append_right (by omega), hf1, a2]; exact q1, by rw [List.getElem?_append_right (by omega), a2]; exact q2, ?_⟩
      rw [e1, behL_app]
      exact q3
  | (rest, some t) :: S, L, acc, h => by
    obtain ⟨hlen, h⟩ := h
    obtain ⟨w1, f1, ⟨a0, a1⟩, a2, a3, a4⟩ := RG_run rest L acc h
    obtain ⟨w2, f2, b1, b2, b3, b4⟩ := RGS_run S _ _ a1
    have hf1 : f1.length = w1.length := by simpa using congrArg List.length a3
    obtain ⟨ws0, rfl⟩ : ∃ ws0, w1 = [ws0] := List.length_eq_one_iff.1 (by omega)
    have e0 : ws0 = [(.s t, .v (.c (.v x)))] := by
      have : ws0 ++ L = [(.s t, .v (.c (.v x)))] ++ L := by simpa [behL] using a0
      exact List.append_cancel_right this
    subst e0
    refine ⟨[[(.s t, .v (.c (.r k 0 [] 0 len)))]] ++ w2, f1 ++ f2, by rw [behL_app, ← List.append_assoc]; exact b1, by simp [hlen, b2]; omega, by rw [List.map_append, List.map_append, b3, a3]; rfl, fun j o ho => ?_⟩
    simp only [List.flatMap_cons] at ho
    by_cases hj : j < rest.length
    · have hj0 : j = 0 := by omega
      subst hj0
      rw [List.getElem?_append_left hj] at ho
      obtain ⟨f, ws, q1, q2, q3⟩ := a4 0 o ho
      simp only [List.getElem?_cons_zero, Option.some.injEq] at q2
      subst q2
      refine ⟨f, _, by rw [List.getElem?_append_left (by simp at hf1; omega)]; exact q1, rfl, .inr ⟨t, rfl, fun st' hs => q3 st' fun l hl => ?_⟩⟩
      rw [hs l hl]; rfl
    · rw [List.getElem?_append_right (by omega)] at ho
      obtain ⟨f, ws, q1, q2, q3⟩ := b4 _ o ho
      have e1 : ([[(Loc.s t, Abs.X.v (.c (.r k 0 [] 0 len)))]] ++ w2).take j = [[(Loc.s t, Abs.X.v (.c (.r k 0 [] 0 len)))]] ++ w2.take (j - rest.length) := by
        rw [List.take_append, List.take_of_length_le (by simp; omega), hlen]; rfl
      refine ⟨f, ws, by rw [List.getElem?_append_right (by simp at hf1; omega), hf1]; simp [hlen] at q1 ⊢; exact q1, by rw [List.getElem?_append_right (by simp; omega)]; simp [hlen] at q2 ⊢; exact q2, ?_⟩
      rw [e1, behL_app]
      exact q3
theorem stOf_inv {wss : Nat → Ws} {k : K} {len : Nat} {st : St} (h0 : ∃ e, st (.k k) = .e e ∧ e.es.length = len) (hw : ∀ j x, (Loc.k k, x) ∈ wss j → ∃ e, x = .e e ∧ e.es.length = len) (b : Nat → Bool) : ∀ m, ∃ e, stOf wss b m st (.k k) = .e e ∧ e.es.length = len
  | 0 => h0
  | m + 1 => by
    have ih := stOf_inv h0 hw b m
    simp only [stOf]
    split
    · cases hq : ovl (wss m) (.k k) with
      | none => simp only [app, hq]; exact ih
      | some x => simp only [app, hq]; exact hw m x (ovl_mem hq)
    · exact ih
theorem app_twice {l : Loc} {x y : Abs.X} {st : St} : app [(l, x)] (app [(l, y)] st) = app [(l, x)] st := by
  funext l'
  by_cases h : l' = l
  · subst h; simp [app, ovl]
  · have : ¬ l = l' := fun e => h e.symm
    simp [app, ovl, h]
end Go.Abs
namespace Go.Abs.E
open Go Go.Abs
variable [Amb]
def segs (ops : List Oper) : List (Nat × Option Nat) → List (List Oper × Option Nat)
  | [] => []
  | (m, t) :: s => (ops.take m, t) :: segs (ops.drop m) s
def INDM (os : List Oper) (fs : List Foot) (_h : Hold (os, fs)) : Prop := indepM os fs = true
theorem INDM.mk {os : List Oper} {fs : List Foot} (h : indepM os fs = true) : INDM os fs () := h
def RGS (P : Program) (md : Nat → Nat → Bool) (wr : Bool) (ops : List Oper) (x : Value) (k : K) (len : Nat) (S : List (List Oper × Option Nat)) (L : Ws) (acc : List Foot) (K : Ws → List Foot → Prop) (_h : Hold (P, md, wr, ops, S, acc, K)) : Prop := Go.Abs.RGS P md wr ops x k len S L acc K
section
variable {P : Program} {md : Nat → Nat → Bool} {wr : Bool} {ops rest : List Oper} {x : Value} {k : K} {len t : Nat} {S : List (List Oper × Option Nat)} {L : Ws} {acc : List Foot} {K : Ws → List Foot → Prop}
theorem rgs_nil : RGS P md wr ops x k len [] L acc K () = KD K L acc () := rfl
theorem rgs_n : RGS P md wr ops x k len ((rest, none) :: S) L acc K () = RG P md wr true ops rest L acc (fun L' acc' => RGS P md wr ops x k len S L' acc' K ()) () := rfl
theorem rgs_s : RGS P md wr ops x k len ((rest, some t) :: S) L acc K () = (rest.length = 1 ∧ RG P md wr true ops rest L acc (fun L' acc' => L' = (.s t, .v (.c (.v x))) :: L ∧ RGS P md wr ops x k len S ((.s t, .v (.c (.r k 0 [] 0 len))) :: L) acc' K ()) ()) := rfl
end
section
variable {H : K → Option Hdr} {P : Program} {n np : Nat} {KK : KX} {L : Ws} {y : Code}
theorem evh_rl {id : Nat} {ops : List Oper} (md : Nat → Nat → Bool) (wr : Bool) (S : List (List Oper × Option Nat)) (kk k' : K) (j z : Nat) (zs : List (List T)) (e : Ent) (hmix : P.follows .mixedOrders = true) (hS : S.flatMap Prod.fst = ops) (hd : (ops.all fun o => match o.dst with | some t => Nat.blt t n | none => true) = true)
    (hk1 : np ≤ k'.1) (hnp : np ≤ n) (hk2 : k'.1 < n) (he : ofL L (.k kk) = .e e) (hc : cellAt e.es 0 j = some (.s true z zs)) (hf : ofL L (.k k') = .none)
    (h : ∀ (x : Value) (hh : Hdr), Raw (updH H k' hh) k' x zs.length → RGS P md wr ops x k' zs.length S ((.k k', .e ⟨0, z, zs⟩) :: (.k kk, .e ⟨e.ver, e.sz, setCell e.es 0 j (.v x)⟩) :: L) [] (fun L3 fs => INDM ops fs () ∧ KL k' zs.length L3 ∧ EVH (updH H k' hh) P n n y L3 KK ()) ()) :
    EVH H P n np (.seq (.region id ops.toArray true) y) L KK () := by
  intro cx Hd a w hH h0 hr
  have hn : DstOK n ops.toArray := DstOK.of (ops := ops.toArray) hd
  obtain ⟨w0, XX, H0⟩ := cx
  have hH' : H0 = H := hH
  subst hH'
  have hnone : H0 k' = none := by
    cases hq : H0 k' with
    | none => rfl
    | some hh => exact absurd (h0 k' hh hq) (by omega)
  obtain ⟨x, Hd1, hx, hr1⟩ := detach_rel hr.drew he hc hf hnone
  rw [app_ofL] at hr1
  obtain ⟨wsl, fs, ⟨hi, hkl, hy⟩, h2, h3, h4⟩ := RGS_run S _ [] (h x _ hx)
  rw [List.nil_append] at hi
  rw [hS] at h2 h4
  have h2' : wsl.length = ops.toArray.size := by simpa using h2
  have hlen : fs.length = wsl.length := by simpa using congrArg List.length h3
  generalize hL1 : ([(Loc.k k', Abs.X.e ⟨0, z, zs⟩), (Loc.k kk, Abs.X.e { e with es := setCell e.es 0 j (.v x) })] ++ L : Ws) = L1 at hr1
  have hL1' : ((.k k', .e ⟨0, z, zs⟩) :: (.k kk, .e { e with es := setCell e.es 0 j (.v x) }) :: L : Ws) = L1 := hL1
  rw [hL1'] at h4 hkl hy
  have hst : ∀ m, m ≤ ops.toArray.size → stOf (fun j => wsl.getD j []) (fun _ => true) m (ofL L1) = ofL (behL (wsl.take m) L1) := fun m hm => stOf_behL m (by omega)
  have hend : stOf (fun j => wsl.getD j []) (fun _ => true) ops.toArray.size (ofL L1) = ofL (behL wsl L1) := by
    rw [hst _ (Nat.le_refl _), List.take_of_length_le (by omega)]
  have hsp := Spec.i (ops := ops.toArray) (fs := fs) (by simpa using indepM_ok hi)
  have hinv0 : ∃ e, ofL L1 (.k k') = .e e ∧ e.es.length = zs.length := by
    rw [← hL1']
    exact ⟨⟨0, z, zs⟩, by simp [ofL, app, ovl], rfl⟩
  have hinvw : ∀ j x, (Loc.k k', x) ∈ wsl.getD j [] → ∃ e, x = .e e ∧ e.es.length = zs.length := by
    intro j x hm
    refine KL_mem hkl x ?_
    rw [List.getD_eq_getElem?_getD] at hm
    cases hq : wsl[j]? with
    | none => rw [hq] at hm; simp at hm
    | some ws =>
      rw [hq, Option.getD_some] at hm
      simp only [behL]
      exact List.mem_append_left _ (List.mem_flatten.2 ⟨ws, List.mem_reverse.2 (List.mem_of_getElem? hq), hm⟩)
  refine wp_seq ?_
  refine wp_region_any hmix (any_okX (wss := fun j => wsl.getD j []) (fs := fs) (INV := fun st' => ∃ e, st' (.k k') = .e e ∧ e.es.length = zs.length) (cx := ⟨w0, XX, updH H0 k' (Hd1 k' [])⟩) (n := n) (st := ofL L1) (by omega) (fun b hb i hi' he' j hj hbj => ?_) hsp.2.1 (fun j hj => ?_) (fun b => stOf_inv hinv0 hinvw b _) (fun j o ho => ?_) (fun Hd' a' w' hr' => ?_) ops.toArray.size (Array.replicate ops.toArray.size false) Hd1 a w.drew (by simp) (fun i o ho hb => ?_) ?_ ?_)
  · obtain ⟨f, g, q1, q2, q3, q4, q5⟩ := hsp.1 b hb i hi' he' j hj hbj
    refine ⟨f, g, q1, q2, q3, q4, ?_⟩
    rcases q5 with q5 | q5
    · exact q5
    · simp [offOf] at q5
  · have hf' : fs[j]? = some fs[j] := List.getElem?_eq_getElem (by omega)
    have hw : wsl[j]? = some wsl[j] := List.getElem?_eq_getElem (by omega)
    refine ⟨_, hf', ?_⟩
    have h5 := congrArg (fun l => l[j]?) h3
    simp only [List.getElem?_map, hf', hw, Option.map_some, Option.some.injEq] at h5
    simp only [List.getD_eq_getElem?_getD, hw, Option.getD_some, h5]
  · obtain ⟨f, ws, q1, q2, q3⟩ := h4 j o (by simpa using ho)
    have hjl : j ≤ ops.toArray.size := by rw [Array.getElem?_eq_some_iff] at ho; exact Nat.le_of_lt ho.1
    refine ⟨f, q1, fun st' Hd2 a2 w2 hI hs hr2 KC hKC => ?_⟩
    rw [hst j hjl] at hs
    have hws : wsl.getD j [] = ws := by simp [List.getD_eq_getElem?_getD, q2]
    rw [hws] at hKC
    rcases q3 with q3 | ⟨t, rfl, q3⟩
    · exact operM_ok (md := md) (Kc := fun ws' => ws' = ws) hr2 (fun t ht => hn j o t ho ht) (by simpa using q3 st' hs (fun ws' => ws' = ws) rfl) (fun ws' Hd' a' w' hw hr' => by subst hw; exact hKC Hd' a' w' hr')
    · refine operM_ok (md := md) (Kc := fun ws' => ws' = [(.s t, .v (.c (.v x)))]) hr2 (fun t ht => hn j o t ho ht) (by simpa using q3 st' hs (fun ws' => ws' = [(.s t, .v (.c (.v x)))]) rfl) (fun ws' Hd' a' w' hw hr' => ?_)
      subst hw
      refine hKC Hd' a' w' ?_
      obtain ⟨e2, he2, hl2⟩ := hI
      have h7 := hr'.raw (t := t) (v := .c (.v x)) (v' := .c (.r k' 0 [] 0 zs.length)) (ks := [some k']) (cs := [.v x]) (cs' := [.r k' 0 [] 0 zs.length]) (by simp [app, ovl]) ⟨rfl, rfl⟩ ⟨x, e2, [], rfl, by rw [known_slot]; exact he2, by rw [hl2]; exact hx, by rw [hl2], rfl⟩
      rw [app_twice] at h7
      exact h7
  · rw [hend] at hr'
    have h9 := hy ⟨w0, XX, updH H0 k' (Hd1 k' [])⟩ Hd' a' w' rfl (fun k2 hh hk' => by
      by_cases e1 : k2 = k'
      · subst e1; exact hk2
      · have hk3 : updH H0 k' (Hd1 k' []) k2 = some hh := hk'
        rw [updH_ne e1] at hk3
        exact Nat.lt_of_lt_of_le (h0 k2 hh hk3) hnp) hr'
    refine wp_mono h9 ?_
    rintro e1 a2 w2 ⟨st2, Hd2, q1, q2⟩
    exact ⟨st2, Hd2, q1, q2.down hnone⟩
  · have hi2 : i < ops.toArray.size := by rw [Array.getElem?_eq_some_iff] at ho; exact ho.1
    have hi3 : i < ops.length := by simpa using hi2
    simp [Array.getD_eq_getD_getElem?, hi3] at hb
  · have : stOf (fun j => wsl.getD j []) (fun j => (Array.replicate ops.toArray.size false).getD j true) ops.toArray.size (ofL L1) = ofL L1 := by
      rw [stOf_congr (b' := fun _ => false) ops.toArray.size (fun j hj => by simp [Array.getD_eq_getD_getElem?, show j < ops.length by simpa using hj])]
      exact stOf_none _
    rw [this]
    exact hr1
  · exact Nat.le_trans List.countP_le_length (by simp)
theorem evh_rlS {id : Nat} {ops : List Oper} (md : Nat → Nat → Bool) (wr : Bool) (sp : List (Nat × Option Nat)) (kk k' : K) (j z : Nat) (zs : List (List T)) (e : Ent) (hmix : P.follows .mixedOrders = true) (hS : (segs ops sp).flatMap Prod.fst = ops) (hd : (ops.all fun o => match o.dst with | some t => Nat.blt t n | none => true) = true)
    (hk1 : np ≤ k'.1) (hnp : np ≤ n) (hk2 : k'.1 < n) (he : ofL L (.k kk) = .e e) (hc : cellAt e.es 0 j = some (.s true z zs)) (hf : ofL L (.k k') = .none)
    (h : ∀ (x : Value) (hh : Hdr), Raw (updH H k' hh) k' x zs.length → RGS P md wr ops x k' zs.length (segs ops sp) ((.k k', .e ⟨0, z, zs⟩) :: (.k kk, .e ⟨e.ver, e.sz, setCell e.es 0 j (.v x)⟩) :: L) [] (fun L3 fs => INDM ops fs () ∧ KL k' zs.length L3 ∧ EVH (updH H k' hh) P n n y L3 KK ()) ()) :
    EVH H P n np (.seq (.region id ops.toArray true) y) L KK () := evh_rl md wr (segs ops sp) kk k' j z zs e hmix hS hd hk1 hnp hk2 he hc hf h
end
end Go.Abs.E

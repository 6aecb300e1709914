/- A small abstract machine over the kit's wp, part of it: states of slots and owned rows, and what each operation does to them. No condition. -/
import Derived.Test.YtijifinpifomcaaMachTwo
set_option linter.unusedVariables false
set_option linter.unusedSimpArgs false
set_option linter.constructorNameAsVariable false
set_option linter.unusedSectionVars false
namespace Go.Abs
open Go
variable [Amb]
def hkF (st : St) (Hd : K → Path → Hdr) (fl : K → Option HRow) : Heap := fun
  | .inl k => HeapOf st Hd (.inl k)
  | .inr x => fl x
def setK (fl : K → Option HRow) (x : K) (r : Option HRow) : K → Option HRow := fun y => if y = x then r else fl y
inductive Handed (st : St) (Hd : K → Path → Hdr) : Ws → List Pl → Prop
  | nil : Handed st Hd [] []
  | cons (ov : Ws) (pls : List Pl) (pl : Pl) (e : Ent) (es : List (List T)) (h : Handed st Hd ov pls) (he : app ov st (.k pl.k) = .e e) (hv : pl.ver = e.ver) (hr : rowAt e.sz e.es pl.p = some (pl.sz, es)) (hl : es.length = pl.len)
      (hf : Fewer st (app ov st) Hd Hd) (hk : ∃ ver, known st pl.k ver) (hva : ∃ ver es0, known st pl.k ver ∧ valid st Hd pl.k ver pl.p pl.sz es0 (Hd pl.k pl.p) ∧ es0.length = pl.len) : Handed st Hd (gone pl.k pl.p e :: ov) (pl :: pls)
structure AInv (cx : Cx) (st : St) (Hd : K → Path → Hdr) (w : World) (ac : Acc) (fl : K → Option HRow) : Prop where
  few : Fewer st (app ac.1 st) Hd Hd
  heap : HeapOK cx (hkF (app ac.1 st) Hd fl) w
  handed : Handed st Hd ac.1 ac.2
  own : ∀ x r, fl x = some r → ownEs r.es = true
  src : ∀ x r, fl x = some r → (r.es = [] ∧ ∀ q, (r.hd q).cap = 0) ∨ ∃ pl, pl ∈ ac.2 ∧ x = (pl.n, pl.j)
  nodup : (ac.2.map fun pl => (pl.n, pl.j)).Nodup
  back : ∀ pl, pl ∈ ac.2 → ∃ es, fl (pl.n, pl.j) = some ⟨pl.sz, es, fun q => Hd pl.k (pl.p ++ q)⟩ ∧ es.length = pl.len
def Free (n j : Nat) (fl : K → Option HRow) : Prop := ∀ x : K, (x.1 = n ∧ j ≤ x.2) ∨ n < x.1 → fl x = none
def Ext (n j : Nat) (fl fl' : K → Option HRow) : Prop := ∀ x : K, ¬ ((x.1 = n ∧ j ≤ x.2) ∨ n < x.1) → fl' x = fl x
def ECell (w : World) (fl : K → Option HRow) (n j : Nat) (t : T) (y : Value) : Prop := match t with
  | .v x => y = x
  | .d => True
  | .s false sz es => Bor w noX y sz es
  | .s true sz es => ∃ hd a cap, fl (n, j) = some ⟨sz, es, hd⟩ ∧ y = .slice a es.length cap ∧ es.length ≤ cap ∧ (cap ≠ 0 → a = some ⟨(hd []).b, (hd []).o, none⟩ ∧ cap ≤ (hd []).cap)
def handF (fl : K → Option HRow) : Nat → Prop := fun b => ∃ (x : K) (q : Path) (sz : Nat) (es : List (List T)) (r : HRow), fl x = some r ∧ rowAt r.sz r.es q = some (sz, es) ∧ (r.hd q).cap ≠ 0 ∧ (r.hd q).b = b
def ECap (w : World) (X : Nat → Prop) (a : A) (y : Value) : Prop := match a with
  | .q sz es i off => ∃ b o cap, y = .pointer (some ⟨b, o + (i * sz + off), none⟩) ∧ Bor w X (.slice (some ⟨b, o, none⟩) es.length cap) sz es ∧ i < es.length
  | _ => False
def EArg (w : World) (fl : K → Option HRow) (n : Nat) (a : A) (y : Value) : Prop := match a with
  | .c t => ECell w fl n 0 t y ∧ ∀ sz es, t = .s false sz es → ∃ fl0, Free (n + 1) 0 fl0 ∧ Ext (n + 1) 0 fl0 fl ∧ (((sz != 0) && szEs es) = true → Bor w (handF fl0) y sz es)
  | .a ts => ∃ ys : Array Value, y = .agg ys ∧ ys.size = ts.length ∧ ∀ (j : Nat) (t : T) (x : Value), ts[j]? = some t → ys[j]? = some x → ECell w fl n j t x
  | .f fn caps => ∃ ys : Array Value, y = .func (.func fn) #[] ys ∧ ys.size = caps.length ∧ ∀ (i : Nat) (a : A) (x : Value), caps[i]? = some a → ys[i]? = some x → ECap w noX a x ∧ ∃ fl0, Free (n + 1) 0 fl0 ∧ Ext (n + 1) 0 fl0 fl ∧ (a.capOK = true → ECap w (handF fl0) a x)
  | .q sz es i off => ECap w noX (.q sz es i off) y
  | .p sz es => ∃ ad, y = .pointer (some ad) ∧ es.length = 1 ∧ ECell w fl n 0 (.s true sz es) (.slice (some ad) 1 1)
theorem ECell.ext {w : World} {fl fl' : K → Option HRow} {n j : Nat} {t : T} {y : Value} (h : ECell w fl n j t y) (he : fl' (n, j) = fl (n, j)) : ECell w fl' n j t y := by
  cases t with
  | v x => exact h
  | d => trivial
  | s own sz es =>
    cases own with
    | false => exact h
    | true => obtain ⟨hd, a, cap, h1, h2⟩ := h; exact ⟨hd, a, cap, by rw [he]; exact h1, h2⟩
theorem EArg.ext {w : World} {fl fl' : K → Option HRow} {n : Nat} {a : A} {y : Value} (h : EArg w fl n a y) (he : Ext (n + 1) 0 fl fl') : EArg w fl' n a y := by
  have hk : ∀ j, fl' (n, j) = fl (n, j) := fun j => he (n, j) (by simp)
  cases a with
  | c t => obtain ⟨h1, h2⟩ := h; exact ⟨ECell.ext h1 (hk 0), fun sz es h3 => (h2 sz es h3).elim fun fl0 q => ⟨fl0, q.1, fun z hz => (he z hz).trans (q.2.1 z hz), q.2.2⟩⟩
  | a ts => obtain ⟨ys, h1, h2, h3⟩ := h; exact ⟨ys, h1, h2, fun j t x h4 h5 => (h3 j t x h4 h5).ext (hk j)⟩
  | q sz es i off => exact h
  | p sz es => obtain ⟨ad, h1, h2, h3⟩ := h; exact ⟨ad, h1, h2, h3.ext (hk 0)⟩
  | f fn caps => obtain ⟨ys, h1, h2, h3⟩ := h; exact ⟨ys, h1, h2, fun i a x h4 h5 => ⟨(h3 i a x h4 h5).1, (h3 i a x h4 h5).2.elim fun fl0 q => ⟨fl0, q.1, fun z hz => (he z hz).trans (q.2.1 z hz), q.2.2⟩⟩⟩
theorem Ext.refl (n j : Nat) (fl : K → Option HRow) : Ext n j fl fl := fun _ _ => rfl
theorem Ext.trans {n j : Nat} {a b c : K → Option HRow} (h : Ext n j a b) (g : Ext n j b c) : Ext n j a c := fun x hx => (g x hx).trans (h x hx)
theorem hkF_setK (st : St) (Hd : K → Path → Hdr) (fl : K → Option HRow) (x : K) (r : Option HRow) : hkF st Hd (setK fl x r) = (hkF st Hd fl).set (.inr x) r := by
  funext i
  cases i with
  | inl k => rw [Heap.set_ne _ _ (by simp)]; rfl
  | inr y =>
    by_cases h : y = x
    · subst h; rw [Heap.set_same]; simp [hkF, setK]
    · rw [Heap.set_ne _ _ (by simp [h])]; simp [hkF, setK, h]
theorem hkF_app {st : St} {Hd : K → Path → Hdr} {fl : K → Option HRow} {k : K} {x : X} : hkF (app [(.k k, x)] st) Hd fl = (hkF st Hd fl).set (.inl k) (match x with | .e e => some ⟨e.sz, e.es, Hd k⟩ | _ => none) := by
  funext i
  cases i with
  | inr y => rw [Heap.set_ne _ _ (by simp)]; rfl
  | inl k' =>
    by_cases h : k' = k
    · subst h; rw [Heap.set_same]; simp only [hkF, HeapOf, app_one_same]; cases x <;> rfl
    · rw [Heap.set_ne _ _ (fun e => h (Sum.inl.inj e))]
      simp only [hkF, HeapOf, app_one_ne _ _ (fun e => h (Loc.k.inj e) : (Loc.k k') ≠ .k k)]
section
variable {P : Program} {cx : Cx} {n0 : Nat} {st : St} {Hd : K → Path → Hdr} {a : Act} {w : World} {Kc : Ws → Prop}
theorem lent_row (hkp : Keep cx w) {H : Heap} (hk : HeapOK cx H w) {i : Ix} {r : HRow} (hi : H i = some r) {p : Path} {sz : Nat} {es : List (List T)} (hr : rowAt r.sz r.es p = some (sz, es)) {off len cap : Nat} {a : Option Addr}
    (hl : off + len ≤ es.length) (hle : len ≤ cap) (hcap : cap ≠ 0 → a = some ⟨(r.hd p).b, (r.hd p).o + off * sz, none⟩ ∧ off + cap ≤ (r.hd p).cap) : Bor w noX (.slice a len cap) sz (borEs ((es.drop off).take len)) :=
  row_lent hkp (r := r) (SizeOf.sizeOf es) sz es p (Nat.le_refl _) (fun q sz' es' hq => hk.rows i r (p ++ q) sz' es' hi (by rw [rowAt_append, hr]; exact hq)) off len cap a hl hle hcap
theorem cellA_ok (hkp : Keep cx w) {own : Bool} {n j : Nat} {ac : Acc} {kd : Option Nat} {c : C} {f : Acc → T → M} {fl : K → Option HRow} {y : Value} (hm : (cellA own n j ac kd c f).wp P st Kc) (hi : AInv cx st Hd w ac fl) (hf : Free n j fl) (hc : COK cx st Hd c y) :
    ∃ ac' fl' t, AInv cx st Hd w ac' fl' ∧ Ext n j fl fl' ∧ Free n (j + 1) fl' ∧ ECell w fl' n j t y ∧ (∀ pl, pl ∈ ac'.2 → pl ∈ ac.2 ∨ (pl.n = n ∧ pl.j = j ∧ ∃ sz es, t = .s true sz es)) ∧ (f ac' t).wp P st Kc ∧ (∀ sz es, t = .s false sz es → fl' = fl ∧ (((sz != 0) && szEs es) = true → Bor w (handF fl) y sz es)) := by
  have hXX : ∀ b, b < cx.w0.heap.size → ¬ cx.X b → ¬ handF fl b := by
    rintro b hb hX ⟨x, q, sz, es, r, h1, h2, h3, rfl⟩
    rcases (hi.heap.blk (.inr x) q sz es (r.hd q) ⟨r, h1, h2, rfl⟩ h3).2 with h4 | h4
    · omega
    · exact hX h4
  have hf1 : Free n (j + 1) fl := fun x hx => hf x (hx.imp (fun h => ⟨h.1, by omega⟩) id)
  have hfj : fl (n, j) = none := hf (n, j) (.inl ⟨rfl, Nat.le_refl _⟩)
  have hset : ∀ r : HRow, Ext n j fl (setK fl (n, j) (some r)) ∧ Free n (j + 1) (setK fl (n, j) (some r)) := by
    refine fun r => ⟨fun x hx => ?_, fun x hx => ?_⟩
    · have : x ≠ (n, j) := by rintro rfl; exact hx (.inl ⟨rfl, Nat.le_refl _⟩)
      simp [setK, this]
    · have : x ≠ (n, j) := by rintro rfl; rcases hx with ⟨_, hx⟩ | hx <;> simp at hx <;> omega
      simp only [setK, if_neg this]; exact hf1 x hx
  have hnone : hkF (app ac.1 st) Hd fl (.inr (n, j)) = none := hfj
  cases hc with
  | v => exact ⟨ac, fl, .v y, hi, Ext.refl _ _ _, hf1, rfl, fun pl h => .inl h, hm, fun _ _ h => by simp at h⟩
  | u => 
    cases own with
    | true => exact hm.elim
    | false => exact ⟨ac, fl, .d, hi, Ext.refl _ _ _, hf1, trivial, fun pl h => .inl h, hm, fun _ _ h => by simp at h⟩
  | b _ sz es hb =>
    cases own with
    | true => exact hm.elim
    | false => exact ⟨ac, fl, .s false sz es, hi, Ext.refl _ _ _, hf1, Bor.keep hkp hb, fun pl h => .inl h, hm, fun sz' es' h => by
        simp only [T.s.injEq, true_and] at h
        obtain ⟨rfl, rfl⟩ := h
        refine ⟨rfl, fun hc => ?_⟩
        simp only [Bool.and_eq_true, bne_iff_ne] at hc
        exact Bor.keepX hkp hXX hb hc.1 hc.2⟩
  | n =>
    cases own with
    | false =>
      cases kd with
      | none => exact hm.elim
      | some m => exact ⟨ac, fl, .s false m [], hi, Ext.refl _ _ _, hf1, .mk none 0 m [] 0 0 (fun _ _ => undef) (by simp) (fun i e h => by simp at h) (.inl rfl) (fun i e j t h => by simp at h) (fun i e j t h => by simp at h), fun pl h => .inl h, hm, fun sz' es' h => by
        simp only [T.s.injEq, true_and] at h
        obtain ⟨rfl, rfl⟩ := h
        refine ⟨rfl, fun _ => ?_⟩
        exact .mk none 0 m [] 0 0 (fun _ _ => undef) (by simp) (fun i e h => by simp at h) (.inl rfl) (fun i e j t h => by simp at h) (fun i e j t h => by simp at h)⟩
    | true => exact ⟨ac, fl, .v (.slice none 0 0), hi, Ext.refl _ _ _, hf1, rfl, fun pl h => .inl h, hm, fun _ _ h => by simp at h⟩
  | r k ver p off len a' cap hkn hle hv =>
    obtain ⟨e, sz, es, he, hver, hr, hm2⟩ := getR_inv hm
    have hkn1 := hi.few.kn _ _ hkn
    obtain ⟨es0, hv0, hlen0⟩ := hi.few.va _ _ _ _ _ _ hkn ⟨e, he, hver, hr, rfl⟩
    obtain ⟨hb1, hb2⟩ := hv _ _ _ hv0
    rw [hlen0] at hb1
    have hH : hkF (app ac.1 st) Hd fl (.inl k) = some ⟨e.sz, e.es, Hd k⟩ := HeapOf_some he
    cases own with
    | false =>
      obtain ⟨hle2, hm3⟩ := hm2
      exact ⟨ac, fl, .s false sz (borEs ((es.drop off).take len)), hi, Ext.refl _ _ _, hf1, lent_row hkp hi.heap hH hr hle2 hle hb2, fun pl h => .inl h, hm3, fun sz' es' h => by
        simp only [T.s.injEq, true_and] at h
        obtain ⟨rfl, rfl⟩ := h
        refine ⟨rfl, fun hc => ?_⟩
        simp only [Bool.and_eq_true, bne_iff_ne, szEs_bor] at hc
        exact row_lentX hkp (r := ⟨e.sz, e.es, Hd k⟩) hXX (SizeOf.sizeOf es) sz es p (Nat.le_refl _) hc.1 (fun q sz' es' hq hcap => by
          rintro ⟨x, q', sz2, es2, r2, h1, h2, h3, h4⟩
          have := (hi.heap.inj (.inl k) (p ++ q) sz' es' (Hd k (p ++ q)) (.inr x) q' sz2 es2 (r2.hd q') ⟨_, hH, by simp only [rowAt_append, hr]; exact hq, rfl⟩ ⟨r2, h1, h2, rfl⟩ hcap h3 h4.symm).1
          simp at this) (fun q sz' es' hq => hi.heap.rows (.inl k) ⟨e.sz, e.es, Hd k⟩ (p ++ q) sz' es' hH (by simp only [rowAt_append, hr]; exact hq)) off len cap a' hc.2 hle2 hle hb2⟩
    | true =>
      obtain ⟨⟨rfl, rfl, hown⟩, hm3⟩ := hm2
      have hback : ∀ pl, pl ∈ (⟨n, j, k, e.ver, p, sz, es.length⟩ :: ac.2 : List Pl) → ∃ es', setK fl (n, j) (some ⟨sz, es, fun q => Hd k (p ++ q)⟩) (pl.n, pl.j) = some ⟨pl.sz, es', fun q => Hd pl.k (pl.p ++ q)⟩ ∧ es'.length = pl.len := by
        intro pl hpl
        rcases List.mem_cons.1 hpl with rfl | hpl
        · exact ⟨es, by simp [setK], rfl⟩
        · obtain ⟨es1, h1, h2⟩ := hi.back pl hpl
          have : (pl.n, pl.j) ≠ (n, j) := by intro e; rw [e, hfj] at h1; simp at h1
          exact ⟨es1, by simp only [setK, if_neg this]; exact h1, h2⟩
      have hmk : Fewer st (app (gone k p e :: ac.1) st) Hd Hd → HeapOK cx (hkF (app (gone k p e :: ac.1) st) Hd (setK fl (n, j) (some ⟨sz, es, fun q => Hd k (p ++ q)⟩))) w → AInv cx st Hd w (gone k p e :: ac.1, ⟨n, j, k, e.ver, p, sz, es.length⟩ :: ac.2) (setK fl (n, j) (some ⟨sz, es, fun q => Hd k (p ++ q)⟩)) := by
        intro h1 h2
        refine ⟨h1, h2, .cons _ _ ⟨n, j, k, e.ver, p, sz, es.length⟩ e es hi.handed he rfl hr rfl hi.few ⟨ver, hkn⟩ ⟨ver, es0, hkn, hv0, hlen0⟩, fun x r hx => ?_, fun x r hx => ?_, ?_, hback⟩
        · simp only [setK] at hx
          split at hx
          · obtain rfl := Option.some.inj hx; exact hown
          · exact hi.own x r hx
        · simp only [setK] at hx
          split at hx
          · rename_i hxe; exact .inr ⟨_, List.mem_cons_self .., hxe⟩
          · exact (hi.src x r hx).imp id fun ⟨pl, h3, h4⟩ => ⟨pl, List.mem_cons_of_mem _ h3, h4⟩
        · refine List.nodup_cons.2 ⟨fun hin => ?_, hi.nodup⟩
          obtain ⟨pl, hpl, hE⟩ := List.mem_map.1 hin
          obtain ⟨es1, h1, _⟩ := hi.back pl hpl
          have hE2 : (pl.n, pl.j) = (n, j) := hE
          rw [hE2, hfj] at h1
          simp at h1
      refine ⟨_, setK fl (n, j) (some ⟨sz, es, fun q => Hd k (p ++ q)⟩), .s true sz es, hmk ?_ ?_, (hset _).1, (hset _).2, ⟨fun q => Hd k (p ++ q), a', cap, by simp [setK], rfl, hle, fun hc => ?_⟩, fun pl hpl => (List.mem_cons.1 hpl).elim (fun h => .inr (by rw [h]; exact ⟨rfl, rfl, sz, es, rfl⟩)) .inl, hm3, fun _ _ h => by simp at h⟩
      · cases p with
        | nil => simp only [gone]; rw [app_cons]; exact hi.few.trans (fewer_gone he)
        | cons x p =>
          obtain ⟨q, a1, b1, hq⟩ := path_split x p
          have hg : gone k (x :: p) e = (.k k, .e { e with es := setAt e.es q e.sz a1 b1 .d }) := by
            simp only [gone, holed]
            have h1 : (x :: p).dropLast = q := by rw [hq]; simp
            have h2 : (x :: p).getLast? = some (a1, b1) := by rw [hq]; simp
            simp only [h1, h2, Option.getD_some]
          rw [hg, app_cons]
          rw [hq] at hr
          obtain ⟨s1, r1, hr1, hcell⟩ := rowAt_snoc hr
          have hsa : setAt e.es q e.sz a1 b1 .d = setRow e.es q (setCell r1 a1 b1 .d) := by simp [setAt, hr1]
          rw [hsa]
          exact hi.few.trans (fewer_row he (fun p sz es h => hole_row hr1 p sz es h))
      · cases p with
        | nil =>
          simp only [rowAt, Option.some.injEq, Prod.mk.injEq] at hr
          obtain ⟨rfl, rfl⟩ := hr
          simp only [gone]
          rw [app_cons, hkF_setK, hkF_app]
          have := hi.heap.rename (i := .inl k) (i2 := .inr (n, j)) hH hnone
          simpa using this
        | cons x p =>
          obtain ⟨q, a1, b1, hq⟩ := path_split x p
          have hg : gone k (x :: p) e = (.k k, .e { e with es := setAt e.es q e.sz a1 b1 .d }) := by
            simp only [gone, holed]
            have h1 : (x :: p).dropLast = q := by rw [hq]; simp
            have h2 : (x :: p).getLast? = some (a1, b1) := by rw [hq]; simp
            simp only [h1, h2, Option.getD_some]
          rw [hg, app_cons, hkF_setK, hkF_app]
          rw [hq] at hr ⊢
          obtain ⟨s1, r1, hr1, hcell⟩ := rowAt_snoc hr
          have hsa : setAt e.es q e.sz a1 b1 .d = setRow e.es q (setCell r1 a1 b1 .d) := by simp [setAt, hr1]
          have := hi.heap.detach (i2 := .inr (n, j)) hH hr1 hnone hcell
          simpa [hsa] using this
      · obtain ⟨h1, h2⟩ := hb2 hc
        exact ⟨by simpa using h1, by simpa using h2⟩
theorem cellsA_ok (hkp : Keep cx w) {own : Bool} {n : Nat} : ∀ {j : Nat} {ac : Acc} {ks : List (Option Nat)} {cs : List C} {f : Acc → List T → M} {fl : K → Option HRow} {ys : Nat → Value}, (cellsA own n j ac ks cs f).wp P st Kc → AInv cx st Hd w ac fl → Free n j fl → (∀ (i : Nat) (c : C), cs[i]? = some c → COK cx st Hd c (ys i)) →
    ∃ ac' fl' ts, AInv cx st Hd w ac' fl' ∧ Ext n j fl fl' ∧ Free n (j + ts.length) fl' ∧ ts.length = cs.length ∧ (∀ (i : Nat) (t : T), ts[i]? = some t → ECell w fl' n (j + i) t (ys i)) ∧ (∀ pl, pl ∈ ac'.2 → pl ∈ ac.2 ∨ (pl.n = n ∧ ∃ i sz es, pl.j = j + i ∧ ts[i]? = some (.s true sz es))) ∧ (f ac' ts).wp P st Kc
  | j, ac, [], [], f, fl, ys, hm, hi, hf, hc => ⟨ac, fl, [], hi, Ext.refl _ _ _, hf, rfl, fun i t h => by simp at h, fun pl h => .inl h, hm⟩
  | j, ac, [], _ :: _, f, fl, ys, hm, hi, hf, hc => hm.elim
  | j, ac, _ :: _, [], f, fl, ys, hm, hi, hf, hc => hm.elim
  | j, ac, kd :: ks, c :: cs, f, fl, ys, hm, hi, hf, hc => by
    obtain ⟨ac1, fl1, t, h1, h2, h3, h4, h5, hm1, _⟩ := cellA_ok hkp hm hi hf (hc 0 c rfl)
    obtain ⟨ac2, fl2, ts, k1, k2, k3, k4, k5, k6, hm2⟩ := cellsA_ok hkp (ys := fun i => ys (i + 1)) hm1 h1 h3 (fun i c h => hc (i + 1) c (by simpa using h))
    have hx : Ext n j fl1 fl2 := fun x hx => k2 x (fun h => hx (h.imp (fun h => ⟨h.1, by omega⟩) id))
    refine ⟨ac2, fl2, t :: ts, k1, h2.trans hx, by simpa [Nat.add_assoc, Nat.add_comm 1] using k3, by simp [k4], fun i t' ht => ?_, fun pl hpl => ?_, hm2⟩
    · cases i with
      | zero => simp at ht; subst ht; exact h4.ext (k2 (n, j) (by simp))
      | succ i => have := k5 i t' (by simpa using ht); rw [show j + 1 + i = j + (i + 1) by omega] at this; exact this
    rcases k6 pl hpl with hp | ⟨q1, i, sz, es, q2, q3⟩
    · rcases h5 pl hp with hp | ⟨q1, q2, sz, es, q3⟩
      · exact .inl hp
      · exact .inr ⟨q1, 0, sz, es, by omega, by simp [q3]⟩
    · exact .inr ⟨q1, i + 1, sz, es, by omega, by simpa using q3⟩
theorem capA_ok (hkp : Keep cx w) {ov : Ws} (hfew : Fewer st (app ov st) Hd Hd) {fl : K → Option HRow} (hk : HeapOK cx (hkF (app ov st) Hd fl) w) {v : V} {y : Value} {f : A → M} (hv : VOK cx st Hd v y) (hm : (capA ov v f).wp P st Kc) : ∃ a, (ECap w noX a y ∧ (a.capOK = true → ECap w (handF fl) a y)) ∧ (f a).wp P st Kc := by
  have hXX : ∀ b, b < cx.w0.heap.size → ¬ cx.X b → ¬ handF fl b := by
    rintro b hb hX ⟨x, q, sz, es, r, h1, h2, h3, rfl⟩
    rcases (hk.blk (.inr x) q sz es (r.hd q) ⟨r, h1, h2, rfl⟩ h3).2 with h4 | h4
    · omega
    · exact hX h4
  unfold capA at hm
  split at hm
  · rename_i k ver p i off
    obtain ⟨e, sz, es, he, hver, hr, hlt, hm2⟩ := getR_inv hm
    refine ⟨_, ?_, hm2⟩
    cases hv with | p _ _ _ _ _ a hkn hv =>
    obtain ⟨es0, hv0, hlen0⟩ := hfew.va _ _ _ _ _ _ hkn ⟨e, he, hver, hr, rfl⟩
    have hH : hkF (app ov st) Hd fl (.inl k) = some ⟨e.sz, e.es, Hd k⟩ := HeapOf_some he
    have hrow := hk.row hH hr
    have := lent_row hkp hk hH hr (off := 0) (len := es.length) (cap := (Hd k p).cap) (a := some ⟨(Hd k p).b, (Hd k p).o, none⟩) (by omega) hrow.1 (fun _ => ⟨by simp, by simp⟩)
    simp only [List.drop_zero, List.take_length] at this
    have hy := hv _ _ _ hv0 (by omega)
    refine ⟨⟨(Hd k p).b, (Hd k p).o, (Hd k p).cap, ?_, by rw [borEs_length]; exact this, by rw [borEs_length]; exact hlt⟩, fun hc => ?_⟩
    · rw [hy]
    · simp only [A.capOK, Bool.and_eq_true, bne_iff_ne, szEs_bor] at hc
      have h2 := row_lentX hkp (r := ⟨e.sz, e.es, Hd k⟩) hXX (SizeOf.sizeOf es) sz es p (Nat.le_refl _) hc.1 (fun q sz' es' hq hcap => ?_) (fun q sz' es' hq => hk.rows (.inl k) ⟨e.sz, e.es, Hd k⟩ (p ++ q) sz' es' hH (by simp only [rowAt_append, hr]; exact hq))
        0 es.length (Hd k p).cap (some ⟨(Hd k p).b, (Hd k p).o, none⟩) (by simpa using hc.2) (by omega) hrow.1 (fun _ => ⟨by simp, by simp⟩)
      · simp only [List.drop_zero, List.take_length] at h2
        exact ⟨(Hd k p).b, (Hd k p).o, (Hd k p).cap, by rw [hy], by rw [borEs_length]; exact h2, by rw [borEs_length]; exact hlt⟩
      · rintro ⟨x, q', sz2, es2, r2, h1, h2, h3, h4⟩
        have := (hk.inj (.inl k) (p ++ q) sz' es' (Hd k (p ++ q)) (.inr x) q' sz2 es2 (r2.hd q') ⟨_, hH, by simp only [rowAt_append, hr]; exact hq, rfl⟩ ⟨r2, h1, h2, rfl⟩ hcap h3 h4.symm).1
        simp at this
  · refine ⟨_, ?_, hm⟩
    cases hv with | q sz es i off b o cap hb hlt =>
    refine ⟨⟨b, o, cap, rfl, Bor.keep hkp hb, hlt⟩, fun hc => ⟨b, o, cap, rfl, ?_, hlt⟩⟩
    simp only [A.capOK, Bool.and_eq_true, bne_iff_ne] at hc
    exact Bor.keepX hkp hXX hb hc.1 hc.2
  · exact hm.elim
theorem capsA_ok (hkp : Keep cx w) {ov : Ws} (hfew : Fewer st (app ov st) Hd Hd) {fl : K → Option HRow} (hk : HeapOK cx (hkF (app ov st) Hd fl) w) : ∀ {vs : List V} {ys : Nat → Value} {f : List A → M}, (∀ (i : Nat) (v : V), vs[i]? = some v → VOK cx st Hd v (ys i)) → (capsA ov vs f).wp P st Kc →
    ∃ as, as.length = vs.length ∧ (∀ (i : Nat) (a : A), as[i]? = some a → ECap w noX a (ys i) ∧ (a.capOK = true → ECap w (handF fl) a (ys i))) ∧ (f as).wp P st Kc
  | [], ys, f, hv, hm => ⟨[], rfl, fun i a h => by simp at h, hm⟩
  | v :: vs, ys, f, hv, hm => by
    obtain ⟨a, h1, hm1⟩ := capA_ok hkp hfew hk (hv 0 v rfl) hm
    obtain ⟨as, h2, h3, hm2⟩ := capsA_ok hkp hfew hk (ys := fun i => ys (i + 1)) (fun i v h => hv (i + 1) v (by simpa using h)) hm1
    refine ⟨a :: as, by simp [h2], fun i a' ha => ?_, hm2⟩
    cases i with
    | zero => simp at ha; subst ha; exact h1
    | succ i => exact h3 i a' (by simpa using ha)
theorem argA_ok (hkp : Keep cx w) {own : Bool} {n : Nat} {ac : Acc} {ty : TypeId} {v : V} {f : Acc → A → M} {fl : K → Option HRow} {y : Value} (hm : (argA P own n ac ty v f).wp P st Kc) (hi : AInv cx st Hd w ac fl) (hf : Free n 0 fl) (hv : VOK cx st Hd v y) :
    ∃ ac' fl' a, AInv cx st Hd w ac' fl' ∧ Ext n 0 fl fl' ∧ Free (n + 1) 0 fl' ∧ EArg w fl' n a y ∧ (∀ pl, pl ∈ ac'.2 → pl ∈ ac.2 ∨ (pl.n = n ∧ ∃ sz es, a.ts[pl.j]? = some (.s true sz es))) ∧ (f ac' a).wp P st Kc := by
  have hfr : ∀ {j fl'}, Free n j fl' → Free (n + 1) 0 fl' := fun h x hx => h x (.inr (by omega))
  unfold argA at hm
  split at hm
  · cases hv with | c _ _ hc =>
    obtain ⟨ac', fl', t, h1, h2, h3, h4, h5, hm1, h6⟩ := cellA_ok hkp hm hi hf hc
    exact ⟨ac', fl', .c t, h1, h2, hfr h3, ⟨h4, fun sz es ht => ⟨fl, hfr hf, fun z hz => by rw [(h6 sz es ht).1], (h6 sz es ht).2⟩⟩, fun pl hpl => (h5 pl hpl).imp id fun ⟨q1, q2, sz, es, q3⟩ => ⟨q1, sz, es, by rw [q2]; simp [A.ts, q3]⟩, hm1⟩
  · cases hv with | a cs ys hl hc =>
    obtain ⟨ac', fl', ts, h1, h2, h3, h4, h5, h6, hm1⟩ := cellsA_ok hkp (ys := fun i => ys.getD i undef) hm hi hf (fun i c hi => by
      have hil := (List.getElem?_eq_some_iff.1 hi).1
      have hy : ys[i]? = some (ys.getD i undef) := by simp [Array.getD_eq_getD_getElem?, Array.getElem?_eq_getElem (by omega : i < ys.size)]
      exact hc i c _ hi hy)
    refine ⟨ac', fl', .a ts, h1, h2, hfr h3, ⟨ys, rfl, by omega, fun j t x ht hx => ?_⟩, fun pl hpl => (h6 pl hpl).imp id fun ⟨q1, i, sz, es, q2, q3⟩ => ⟨q1, sz, es, by rw [q2, Nat.zero_add]; exact q3⟩, hm1⟩
    have := h5 j t ht
    rw [Nat.zero_add, Array.getD_eq_getD_getElem?, hx] at this
    exact this
  · cases hv with | f fn caps ys hl hc =>
    obtain ⟨as, h1, h2, hm1⟩ := capsA_ok hkp hi.few hi.heap (ys := fun i => ys.getD i undef) (fun i v hi => by
      have hil := (List.getElem?_eq_some_iff.1 hi).1
      have hy : ys[i]? = some (ys.getD i undef) := by simp [Array.getD_eq_getD_getElem?, Array.getElem?_eq_getElem (by omega : i < ys.size)]
      exact hc i v _ hi hy) hm
    refine ⟨ac, fl, .f _ as, hi, Ext.refl _ _ _, hfr hf, ⟨ys, rfl, by omega, fun j t x ht hx => ?_⟩, fun pl h => .inl h, hm1⟩
    have := h2 j t ht
    rw [Array.getD_eq_getD_getElem?, hx] at this
    exact ⟨this.1, fl, hfr hf, Ext.refl _ _ _, this.2⟩
  · rename_i k ver p i off
    obtain ⟨⟨rfl, rfl, rfl, rfl⟩, hm⟩ := hm
    cases hv with | p _ _ _ _ _ ad hkn hv =>
    have hm0 := hm
    unfold cellA at hm0
    obtain ⟨e, sz, es, he, hver, hr, hm1⟩ := getR_inv hm0
    obtain ⟨⟨_, hlen, _⟩, _⟩ := hm1
    have hH : hkF (app ac.1 st) Hd fl (.inl k) = some ⟨e.sz, e.es, Hd k⟩ := HeapOf_some he
    have hrow := hi.heap.row hH hr
    have hc : COK cx st Hd (.r k ver [] 0 1) (.slice (some ad) 1 1) := by
      refine .r _ _ _ _ _ _ _ hkn (Nat.le_refl _) fun sz' es' h' hva => ?_
      obtain ⟨es0, hv0, hl0⟩ := hi.few.va _ _ _ _ _ _ hkn ⟨e, he, .inl rfl, hr, rfl⟩
      obtain ⟨e1, a1, a2, a3, a4⟩ := hva
      obtain ⟨e2, b1, _, b3, b4⟩ := hv0
      rw [a1] at b1
      obtain rfl := X.e.inj b1
      rw [a3] at b3
      obtain ⟨rfl, rfl⟩ := Prod.mk.inj (Option.some.inj b3)
      have hl1 : es'.length = 1 := by omega
      have h1 := hv _ es' h' ⟨_, a1, a2, a3, a4⟩ (by omega)
      have hcap : es.length ≤ (Hd k []).cap := hrow.1
      rw [a4] at hcap
      exact ⟨by omega, fun _ => ⟨by rw [h1]; simp, by omega⟩⟩
    obtain ⟨ac', fl', t, h1, h2, h3, h4, h5, hm3, h6⟩ := cellA_ok hkp hm hi hf hc
    cases t with
    | v _ => exact hm3.elim
    | d => exact hm3.elim
    | s own sz2 es2 =>
      cases own with
      | false => exact hm3.elim
      | true =>
        have hE : ECell w fl' n 0 (.s true sz2 es2) (.slice (some ad) 1 1) := h4
        have hl2 : es2.length = 1 := by
          obtain ⟨_, _, _, _, q, _⟩ := hE
          simp only [Value.slice.injEq] at q
          exact q.2.1.symm
        exact ⟨ac', fl', .p sz2 es2, h1, h2, hfr h3, ⟨ad, rfl, hl2, hE⟩, fun pl hpl => (h5 pl hpl).imp id fun ⟨q1, q2, sz3, es3, q3⟩ => ⟨q1, sz3, es3, by rw [q2]; simp [A.ts]; simpa using q3⟩, hm3⟩
  · exact hm.elim
theorem argsA_ok (hkp : Keep cx w) {mdf : Nat → Bool} : ∀ {n : Nat} {ac : Acc} {tys : List TypeId} {vs : List V} {f : Acc → List A → M} {fl : K → Option HRow} {ys : Nat → Value}, (argsA P mdf n ac tys vs f).wp P st Kc → AInv cx st Hd w ac fl → Free n 0 fl → (∀ (i : Nat) (v : V), vs[i]? = some v → VOK cx st Hd v (ys i)) →
    ∃ ac' fl' as, AInv cx st Hd w ac' fl' ∧ Ext n 0 fl fl' ∧ Free (n + as.length) 0 fl' ∧ as.length = vs.length ∧ (∀ (i : Nat) (a : A), as[i]? = some a → EArg w fl' (n + i) a (ys i)) ∧ (∀ pl, pl ∈ ac'.2 → pl ∈ ac.2 ∨ (∃ i a sz es, as[i]? = some a ∧ pl.n = n + i ∧ a.ts[pl.j]? = some (.s true sz es))) ∧ (f ac' as).wp P st Kc
  | n, ac, [], [], f, fl, ys, hm, hi, hf, hv => ⟨ac, fl, [], hi, Ext.refl _ _ _, hf, rfl, fun i a h => by simp at h, fun pl h => .inl h, hm⟩
  | n, ac, [], _ :: _, f, fl, ys, hm, hi, hf, hv => hm.elim
  | n, ac, _ :: _, [], f, fl, ys, hm, hi, hf, hv => hm.elim
  | n, ac, ty :: tys, v :: vs, f, fl, ys, hm, hi, hf, hv => by
    obtain ⟨ac1, fl1, a, h1, h2, h3, h4, h5, hm1⟩ := argA_ok hkp hm hi hf (hv 0 v rfl)
    obtain ⟨ac2, fl2, as, k1, k2, k3, k4, k5, k6, hm2⟩ := argsA_ok hkp (ys := fun i => ys (i + 1)) hm1 h1 h3 (fun i v h => hv (i + 1) v (by simpa using h))
    have hx : Ext n 0 fl1 fl2 := fun x hx => k2 x (fun h => hx (h.imp (fun h => by omega) (fun h => by omega)))
    refine ⟨ac2, fl2, a :: as, k1, h2.trans hx, by simpa [Nat.add_assoc, Nat.add_comm 1] using k3, by simp [k4], fun i a' ha => ?_, fun pl hpl => ?_, hm2⟩
    · cases i with
      | zero => simp at ha; subst ha; exact h4.ext k2
      | succ i => have := k5 i a' (by simpa using ha); rw [show n + 1 + i = n + (i + 1) by omega] at this; exact this
    rcases k6 pl hpl with hp | ⟨i, a', sz, es, q1, q2, q3⟩
    · rcases h5 pl hp with hp | ⟨q1, sz, es, q2⟩
      · exact .inl hp
      · exact .inr ⟨0, a, sz, es, rfl, by omega, q2⟩
    · exact .inr ⟨i + 1, a', sz, es, by simpa using q1, by omega, q3⟩
end
end Go.Abs
namespace Go.Abs
open Go
variable [Amb]
def handX (H : Heap) : Nat → Prop := fun b => ∃ (x : K) (q : Path) (sz : Nat) (es : List (List T)) (h : Hdr), H.at (.inr x) q sz es h ∧ h.cap ≠ 0 ∧ h.b = b
def entryHd (fl : K → Option HRow) : K → Path → Hdr := fun x => match fl x with
  | some r => r.hd
  | none => fun _ => ⟨0, 0, 0⟩
theorem entryCs_get : ∀ (ts : List T) (n j i : Nat) (c : C), (entryCs n j ts)[i]? = some c → ∃ t, ts[i]? = some t ∧ c = entryC n (j + i) t
  | [], n, j, i, c, h => by simp [entryCs] at h
  | t :: ts, n, j, 0, c, h => by simp [entryCs] at h; exact ⟨t, rfl, h.symm⟩
  | t :: ts, n, j, i + 1, c, h => by
    obtain ⟨t', h1, h2⟩ := entryCs_get ts n (j + 1) i c (by simpa [entryCs] using h)
    exact ⟨t', by simpa using h1, by rw [h2]; congr 1; omega⟩
theorem entryCs_length : ∀ (ts : List T) (n j : Nat), (entryCs n j ts).length = ts.length
  | [], n, j => rfl
  | t :: ts, n, j => by simp [entryCs, entryCs_length ts]
section
variable {P : Program} {cx : Cx} {n0 : Nat} {st : St} {Hd : K → Path → Hdr} {a : Act} {w : World} {Kc : Ws → Prop}
theorem EArg.cell {fl : K → Option HRow} {n : Nat} {a : A} {y : Value} (h : EArg w fl n a y) {j sz : Nat} {es : List (List T)} (hj : a.ts[j]? = some (.s true sz es)) : ∃ hd, fl (n, j) = some ⟨sz, es, hd⟩ := by
  cases a with
  | c t =>
    cases j with
    | succ j => simp [A.ts] at hj
    | zero => simp [A.ts] at hj; subst hj; obtain ⟨⟨hd, _, _, h1, _⟩, _⟩ := h; exact ⟨hd, h1⟩
  | a ts =>
    obtain ⟨ys, rfl, hl, h3⟩ := h
    simp only [A.ts] at hj
    have hjl := (List.getElem?_eq_some_iff.1 hj).1
    have hy : ys[j]? = some ys[j] := Array.getElem?_eq_getElem (by omega)
    obtain ⟨hd, _, _, h1, _⟩ := h3 j _ _ hj hy
    exact ⟨hd, h1⟩
  | p sz es =>
    cases j with
    | succ j => simp [A.ts] at hj
    | zero => simp [A.ts] at hj; obtain ⟨rfl, rfl⟩ := hj; obtain ⟨_, _, _, hd, _, _, h1, _⟩ := h; exact ⟨hd, h1⟩
  | q _ _ _ _ => simp [A.ts] at hj
  | f _ _ => simp [A.ts] at hj
theorem entry_cell {fl : K → Option HRow} {as cas : List A} {ys zs : Nat → Value} (hargs : ∀ (i : Nat) (a : A), as[i]? = some a → EArg w fl i a (ys i)) (hcaps : ∀ (i : Nat) (a : A), cas[i]? = some a → ECap w noX a (zs i)) {x : K} {sz : Nat} {es : List (List T)}
    (h : cellOf (as ++ cas) x = some (sz, es)) : ∃ hd, fl x = some ⟨sz, es, hd⟩ := by
  unfold cellOf at h
  split at h
  · rename_i a ha
    split at h
    · rename_i sz' es' hts
      simp only [Option.some.injEq, Prod.mk.injEq] at h
      obtain ⟨rfl, rfl⟩ := h
      by_cases hlt : x.1 < as.length
      · rw [List.getElem?_append_left hlt] at ha
        exact (hargs _ _ ha).cell hts
      · rw [List.getElem?_append_right (by omega)] at ha
        have := hcaps _ _ ha
        cases a <;> simp only [ECap] at this
        simp [A.ts] at hts
    · simp at h
  · simp at h
theorem Bor.noX_to {X' : Nat → Prop} (hX : ∀ b, ¬ X' b) {y : Value} {sz : Nat} {es : List (List T)} (h : Bor w noX y sz es) : Bor w X' y sz es := by
  have : X' = noX := by funext b; exact propext ⟨fun h => (hX b h).elim, fun h => h.elim⟩
  rw [this]; exact h
theorem ECell.cok {fl : K → Option HRow} {n j : Nat} {t : T} {y : Value} {X' : Nat → Prop} {st' : St} (h : ECell w fl n j t y) (hX : (∀ b, ¬ X' b) ∨ t.plain = true) (hst : ∀ sz es, t = .s true sz es → st' (.k (n, j)) = .e ⟨0, sz, es⟩) : COK ⟨w, X', fun _ => none⟩ st' (entryHd fl) (entryC n j t) y := by
  cases t with
  | v x => cases h; exact .v _
  | d => exact .u _
  | s own sz es =>
    cases own with
    | false =>
      rcases hX with hX | hX
      · exact .b _ _ _ (Bor.noX_to hX h)
      · simp [T.plain] at hX
    | true =>
      obtain ⟨hd, a, cap, h1, rfl, h3, h4⟩ := h
      have h5 := hst sz es rfl
      refine .r _ _ _ _ _ _ _ ⟨by rw [h5]; simp, fun e he => by rw [h5] at he; obtain rfl := X.e.inj he; exact Nat.le_refl _⟩ h3 (fun sz' es' g hv => ?_)
      obtain ⟨e, q1, _, q3, q4⟩ := hv
      rw [h5] at q1
      obtain rfl := X.e.inj q1
      simp only [rowAt, Option.some.injEq, Prod.mk.injEq] at q3
      obtain ⟨rfl, rfl⟩ := q3
      have : entryHd fl (n, j) = hd := by simp [entryHd, h1]
      rw [this] at q4
      subst q4
      exact ⟨by omega, fun hc => ⟨by rw [(h4 hc).1]; simp, by have := (h4 hc).2; omega⟩⟩
theorem ECap.vok {a : A} {y : Value} {X' : Nat → Prop} {st' : St} {Hd' : K → Path → Hdr} (h : ECap w noX a y) (hX : ∀ b, ¬ X' b) : VOK ⟨w, X', fun _ => none⟩ st' Hd' (entryCap a) y := by
  cases a with
  | q sz es i off => obtain ⟨b, o, cap, rfl, h2, h3⟩ := h; exact .q _ _ _ _ _ _ _ (Bor.noX_to hX h2) h3
  | p _ _ => exact h.elim
  | c _ => exact h.elim
  | a _ => exact h.elim
  | f _ _ => exact h.elim
theorem ECap.vokX {a : A} {y : Value} {X' : Nat → Prop} {st' : St} {Hd' : K → Path → Hdr} (h : ECap w X' a y) : VOK ⟨w, X', fun _ => none⟩ st' Hd' (entryCap a) y := by
  cases a with
  | q sz es i off => obtain ⟨b, o, cap, rfl, h2, h3⟩ := h; exact .q _ _ _ _ _ _ _ h2 h3
  | p _ _ => exact h.elim
  | c _ => exact h.elim
  | a _ => exact h.elim
  | f _ _ => exact h.elim
theorem ptr_of_row {cx : Cx} {st : St} {Hd : K → Path → Hdr} {k : K} {ver len : Nat} {ad : Addr} {m cap : Nat} (h : COK cx st Hd (.r k ver [] 0 len) (.slice (some ad) m cap)) (hc : cap ≠ 0 := by omega) : VOK cx st Hd (.p k ver [] 0 0) (.pointer (some ad)) := by
  cases h with | r _ _ _ _ _ _ _ hk hl hv =>
  refine .p _ _ _ _ _ _ hk fun sz es h hva _ => ?_
  obtain ⟨_, h2⟩ := hv sz es h hva
  have h3 := (h2 hc).1
  simpa using h3
theorem lastOK_at {a : A} (h : a.lastOK = true) : a.plain = true ∨ (∃ f caps, a = .f f caps ∧ caps.all A.capOK = true) ∨ ∃ sz es, a = .c (.s false sz es) ∧ ((sz != 0) && szEs es) = true := by
  cases a with
  | c y =>
    cases y with
    | v _ => exact .inl rfl
    | d => simp [A.lastOK, T.lastOK] at h
    | s own sz es =>
      cases own with
      | true => exact .inl rfl
      | false => exact .inr (.inr ⟨sz, es, rfl, by simpa [A.lastOK, T.lastOK] using h⟩)
  | a ys => exact .inl h
  | f g caps => exact .inr (.inl ⟨g, caps, rfl, h⟩)
  | q _ _ _ _ => simp [A.lastOK] at h
  | p _ _ => exact .inl rfl
theorem plainL_at : ∀ {as : List A} {n : Nat} {a : A}, plainL as = true → as[n]? = some a → a.plain = true ∨ (n + 1 = as.length ∧ ((∃ f caps, a = .f f caps ∧ caps.all A.capOK = true) ∨ ∃ sz es, a = .c (.s false sz es) ∧ ((sz != 0) && szEs es) = true))
  | [], n, a, h, ha => by simp at ha
  | [b], n, a, h, ha => by
    cases n with
    | succ n => simp at ha
    | zero =>
      simp only [List.getElem?_cons_zero, Option.some.injEq] at ha
      subst ha
      exact (lastOK_at h).imp id fun h => ⟨rfl, h⟩
  | b :: c :: as, n, a, h, ha => by
    have h : b.plain = true ∧ plainL (c :: as) = true := by simpa [plainL] using h
    cases n with
    | zero => simp only [List.getElem?_cons_zero, Option.some.injEq] at ha; subst ha; exact .inl h.1
    | succ n =>
      rcases plainL_at h.2 (by simpa using ha) with h1 | ⟨h1, h2⟩
      · exact .inl h1
      · exact .inr ⟨by simpa using h1, h2⟩
theorem cellOf_at {as : List A} {n j sz : Nat} {es : List (List T)} {a : A} (ha : as[n]? = some a) (hj : a.ts[j]? = some (.s true sz es)) : entrySt as (.k (n, j)) = .e ⟨0, sz, es⟩ := by
  have : cellOf as (n, j) = some (sz, es) := by simp only [cellOf, ha, hj]
  simp [entrySt, this]
theorem entry_ok {ac : Acc} {fl : K → Option HRow} (hi : AInv cx st Hd w ac fl) {as cas : List A} {ys zs : Nat → Value} (hargs : ∀ (i : Nat) (a : A), as[i]? = some a → EArg w fl i a (ys i)) (hcaps : ∀ (i : Nat) (a : A), cas[i]? = some a → ECap w noX a (zs i))
    (hcall : callable ac.2 as cas = true) (hpls : ∀ pl, pl ∈ ac.2 → pl.n < as.length) {vals : Array Value} (hv1 : ∀ i, i < as.length → vals[i]? = some (ys i)) (hv2 : ∀ i, i < cas.length → vals[as.length + i]? = some (zs i)) :
    (∀ t v, entrySt (as ++ cas) (.s t) = .v v → VOK ⟨w, handX (hkF (app ac.1 st) Hd fl), fun _ => none⟩ (entrySt (as ++ cas)) (entryHd fl) v (vals.getD t undef)) ∧ HeapOK ⟨w, handX (hkF (app ac.1 st) Hd fl), fun _ => none⟩ (HeapOf (entrySt (as ++ cas)) (entryHd fl)) w := by
  have hX : ac.2 = [] → ∀ b, ¬ handX (hkF (app ac.1 st) Hd fl) b := by
    rintro h0 b ⟨x, q, sz, es, h, ⟨r, hr, hrow, hh⟩, hc, _⟩
    rcases hi.src x r hr with ⟨h1, h2⟩ | ⟨pl, hpl, _⟩
    · rw [← hh, h2 q] at hc; exact hc rfl
    · rw [h0] at hpl; simp at hpl
  refine ⟨fun t v hv => ?_, ?_⟩
  · simp only [entrySt] at hv
    split at hv
    · rename_i a ha
      obtain rfl := X.v.inj hv
      by_cases hlt : t < as.length
      · have ha' := ha
        rw [List.getElem?_append_left hlt] at ha
        have hE := hargs t a ha
        rw [Array.getD_eq_getD_getElem?, hv1 t hlt, Option.getD_some]
        have hpl0 : (∀ b, ¬ handX (hkF (app ac.1 st) Hd fl) b) ∨ (a.plain = true) ∨ (t + 1 = as.length ∧ ((∃ f caps, a = .f f caps ∧ caps.all A.capOK = true) ∨ ∃ sz es, a = .c (.s false sz es) ∧ ((sz != 0) && szEs es) = true)) := by
          cases hp : ac.2 with
          | nil => exact .inl (hX hp)
          | cons pl pls =>
            rw [hp] at hcall
            simp only [callable, Bool.and_eq_true] at hcall
            exact .inr (plainL_at hcall.1.1 ha)
        have hsame : t + 1 = as.length → ∀ fl0, Free (t + 1) 0 fl0 → Ext (t + 1) 0 fl0 fl → handF fl0 = handX (hkF (app ac.1 st) Hd fl) := by
          intro htl fl0 hfree hext
          have hfl : ∀ x r, (fl0 x = some r ∨ fl x = some r) → (∃ q, (r.hd q).cap ≠ 0) → fl x = fl0 x := by
            intro x r hx hc
            by_cases hxt : x.1 ≤ t
            · exact hext x (by rintro (⟨h, _⟩ | h) <;> omega)
            · exfalso
              rcases hx with hx | hx
              · rw [hfree x ((Nat.lt_or_eq_of_le (Nat.lt_of_not_le hxt : t + 1 ≤ x.1)).elim .inr fun h => .inl ⟨h.symm, Nat.zero_le _⟩)] at hx; simp at hx
              · rcases hi.src x r hx with ⟨_, h8⟩ | ⟨pl, hpl, rfl⟩
                · obtain ⟨q, hq⟩ := hc; exact hq (h8 q)
                · have h9 := hpls pl hpl; have hxt : ¬ pl.n ≤ t := hxt; omega
          funext b
          apply propext
          constructor
          · rintro ⟨x, q, sz, es, r, k1, k2, k3, k4⟩
            exact ⟨x, q, sz, es, r.hd q, ⟨r, by show fl x = some r; rw [hfl x r (.inl k1) ⟨q, k3⟩]; exact k1, k2, rfl⟩, k3, k4⟩
          · rintro ⟨x, q, sz, es, h, ⟨r, k1, k2, rfl⟩, k3, k4⟩
            have k1 : fl x = some r := k1
            exact ⟨x, q, sz, es, r, by rw [← hfl x r (.inr k1) ⟨q, k3⟩]; exact k1, k2, k3, k4⟩
        by_cases hfc : t + 1 = as.length ∧ ((∃ f caps, a = .f f caps ∧ caps.all A.capOK = true) ∨ ∃ sz es, a = .c (.s false sz es) ∧ ((sz != 0) && szEs es) = true)
        · obtain ⟨htl, ⟨f, caps, rfl, hcaps0⟩ | ⟨sz, es, rfl, hok⟩⟩ := hfc
          · obtain ⟨yy, h1, h2, h3⟩ := hE
            rw [h1]
            refine .f _ _ _ (by simpa using h2) (fun i v y hv hy => ?_)
            rw [List.getElem?_map] at hv
            cases hca : caps[i]? with
            | none => simp [hca] at hv
            | some ca =>
              rw [hca] at hv
              simp only [Option.map_some, Option.some.injEq] at hv
              subst hv
              obtain ⟨-, fl0, hfree, hext, h5⟩ := h3 i ca y hca hy
              have h6 := h5 (List.all_eq_true.1 hcaps0 ca (List.mem_of_getElem? hca))
              rw [← hsame htl fl0 hfree hext]
              exact h6.vokX
          · obtain ⟨fl0, hfree, hext, h5⟩ := hE.2 sz es rfl
            rw [← hsame htl fl0 hfree hext]
            exact .c _ _ (.b _ _ _ (h5 hok))
        have hpl : (∀ b, ¬ handX (hkF (app ac.1 st) Hd fl) b) ∨ (a.plain = true) := hpl0.imp id fun h => h.elim id fun h => absurd h hfc
        cases a with
        | c t' => exact .c _ _ (ECell.cok hE.1 (hpl.imp id fun h => h) (fun sz es h => cellOf_at ha' (by simp [A.ts, h])))
        | a ts =>
          obtain ⟨yy, hy, hl, h3⟩ := hE
          rw [hy]
          refine .a _ _ (by rw [entryCs_length]; exact hl) (fun i c y hc hy => ?_)
          obtain ⟨t', h4, rfl⟩ := entryCs_get _ _ _ _ _ hc
          rw [Nat.zero_add]
          exact ECell.cok (h3 i t' y h4 hy) (hpl.imp id fun h => List.all_eq_true.1 h t' (List.mem_of_getElem? h4)) (fun sz es h => cellOf_at ha' (by simp [A.ts, h4, h]))
        | p sz es =>
          obtain ⟨ad, hy, hl, hE⟩ := hE
          have hcok := ECell.cok (X' := handX (hkF (app ac.1 st) Hd fl)) (st' := entrySt (as ++ cas)) hE (.inr rfl) (fun sz' es' h => by
            simp only [T.s.injEq, true_and] at h
            obtain ⟨rfl, rfl⟩ := h
            exact cellOf_at ha' (by simp [A.ts]))
          rw [hy]
          exact ptr_of_row hcok
        | q sz es i off =>
          rcases hpl with hpl | hpl
          · obtain ⟨b, o, cap, h1, h2, h3⟩ := hE; rw [h1]; exact .q _ _ _ _ _ _ _ (Bor.noX_to hpl h2) h3
          · simp [A.plain] at hpl
        | f fn caps =>
          rcases hpl with hpl | hpl
          · obtain ⟨yy, h1, h2, h3⟩ := hE
            rw [h1]
            refine .f _ _ _ (by simpa using h2) (fun i v y hv hy => ?_)
            rw [List.getElem?_map] at hv
            cases hca : caps[i]? with
            | none => simp [hca] at hv
            | some ca =>
              rw [hca] at hv
              simp only [Option.map_some, Option.some.injEq] at hv
              subst hv
              exact (h3 i ca y hca hy).1.vok hpl
          · simp [A.plain] at hpl
      · rw [List.getElem?_append_right (by omega)] at ha
        have hcl := (List.getElem?_eq_some_iff.1 ha).1
        have hE := hcaps _ a ha
        have h5 := hv2 _ hcl
        rw [show as.length + (t - as.length) = t by omega] at h5
        rw [Array.getD_eq_getD_getElem?, h5, Option.getD_some]
        have hpl : ∀ b, ¬ handX (hkF (app ac.1 st) Hd fl) b := by
          cases hp : ac.2 with
          | nil => exact hX hp
          | cons pl pls =>
            rw [hp] at hcall
            simp only [callable, Bool.and_eq_true] at hcall
            have h6 : cas = [] := by simpa using hcall.1.2
            rw [h6] at hcl; simp at hcl
        cases a with
        | q sz es i off => exact hE.vok hpl
        | p _ _ => exact hE.elim
        | c _ => exact hE.elim
        | a _ => exact hE.elim
        | f _ _ => exact hE.elim
    · simp at hv
  · have hcell : ∀ (i : Ix) (r : HRow), HeapOf (entrySt (as ++ cas)) (entryHd fl) i = some r → ∃ x, i = .inl x ∧ hkF (app ac.1 st) Hd fl (.inr x) = some r := by
      intro i r hir
      cases i with
      | inr x => simp [HeapOf] at hir
      | inl x =>
        refine ⟨x, rfl, ?_⟩
        cases hc : cellOf (as ++ cas) x with
        | none => simp [HeapOf, entrySt, hc] at hir
        | some z =>
          obtain ⟨sz, es⟩ := z
          obtain ⟨hd, h1⟩ := entry_cell hargs hcaps hc
          have h2 : entryHd fl x = hd := by simp [entryHd, h1]
          simp only [HeapOf, entrySt, hc, h2, Option.some.injEq] at hir
          rw [← hir]
          exact h1
    refine (hi.heap.reindex (H' := HeapOf (entrySt (as ++ cas)) (entryHd fl)) (fun | .inl x => .inr x | .inr x => .inl x) (fun i r hir => ?_) (fun i j r s hi' hj' hE => ?_)).rebase (fun i r hir => ?_) (fun i p sz es h hat hc => ?_)
    · obtain ⟨x, rfl, h1⟩ := hcell i r hir; exact h1
    · obtain ⟨x, rfl, h1⟩ := hcell i r hi'
      obtain ⟨y, rfl, h2⟩ := hcell j s hj'
      simp only [Sum.inr.injEq] at hE
      rw [hE]
    · obtain ⟨x, rfl, h1⟩ := hcell i r hir
      exact hi.own x r h1
    · obtain ⟨r, hir, hrow, hh⟩ := hat
      obtain ⟨x, rfl, h1⟩ := hcell i r hir
      exact .inr ⟨x, p, sz, es, h, ⟨r, h1, hrow, hh⟩, hc, rfl⟩
def exitFl (fin res : List A) (Hd2 : Ix → Path → Hdr) : K → Option HRow := fun x =>
  if x.2 % 2 = 0 then exitHeap fin res Hd2 (.inl (x.1, x.2 / 2)) else exitHeap fin res Hd2 (.inr (x.1, x.2 / 2))
theorem exit_own {fin res : List A} (hf : finOK fin = true) (hr : resOK res = true) (Hd2 : Ix → Path → Hdr) (i : Ix) (r : HRow) (h : exitHeap fin res Hd2 i = some r) : ownEs r.es = true := by
  cases i with
  | inl k =>
    simp only [exitHeap] at h
    cases hc : cellOf fin k with
    | none => simp [hc] at h
    | some z =>
      obtain ⟨sz, es⟩ := z
      simp only [hc, Option.map_some, Option.some.injEq] at h
      subst h
      unfold cellOf at hc
      split at hc
      · rename_i a ha
        split at hc
        · rename_i sz' es' ht
          simp only [Option.some.injEq, Prod.mk.injEq] at hc
          obtain ⟨rfl, rfl⟩ := hc
          have h1 := List.all_eq_true.1 hf a (List.mem_of_getElem? ha)
          exact List.all_eq_true.1 h1 _ (List.mem_of_getElem? ht)
        · simp at hc
      · simp at hc
  | inr k =>
    simp only [exitHeap] at h
    cases hc : cellOf res k with
    | none => simp [hc] at h
    | some z =>
      obtain ⟨sz, es⟩ := z
      simp only [hc, Option.map_some, Option.some.injEq] at h
      subst h
      unfold cellOf at hc
      split at hc
      · rename_i a ha
        split at hc
        · rename_i sz' es' ht
          simp only [Option.some.injEq, Prod.mk.injEq] at hc
          obtain ⟨rfl, rfl⟩ := hc
          have h1 := List.all_eq_true.1 hr a (List.mem_of_getElem? ha)
          have := ownE_at h1 ht
          simpa [ownT] using this
        · simp at hc
      · simp at hc
theorem exit_ok (hkp : Keep cx w) {st1 : St} {fl : K → Option HRow} (hk : HeapOK cx (hkF st1 Hd fl) w) {fin res : List A} (hf : finOK fin = true) (hr : resOK res = true) {Hd2 : Ix → Path → Hdr} {w' : World}
    (he : HeapOK ⟨w, handX (hkF st1 Hd fl), fun _ => none⟩ (exitHeap fin res Hd2) w') (hk2 : Keep ⟨w, handX (hkF st1 Hd fl), fun _ => none⟩ w') :
    HeapOK cx (hkF st1 Hd (exitFl fin res Hd2)) w' ∧ Keep cx w' ∧ (∀ k p sz es h, (hkF st1 Hd fl).at (.inl k) p sz es h → h.cap ≠ 0 → w'.heap[h.b]? = w.heap[h.b]?) := by
  have hA : ∀ {k p sz es h}, (hkF st1 Hd fl).at (.inl k) p sz es h → h.cap ≠ 0 → h.b < w.heap.size ∧ ¬ handX (hkF st1 Hd fl) h.b := by
    intro k p sz es h hat hc
    refine ⟨(hk.blk _ _ _ _ _ hat hc).1, ?_⟩
    rintro ⟨x, q, sz', es', h', hat', hc', hE⟩
    have := (hk.inj _ _ _ _ _ _ _ _ _ _ hat hat' hc hc' hE.symm).1
    simp at this
  have hXc : ∀ b, handX (hkF st1 Hd fl) b → b < w.heap.size ∧ (cx.w0.heap.size ≤ b ∨ cx.X b) := by
    rintro b ⟨x, q, sz', es', h', hat', hc', rfl⟩
    exact hk.blk _ _ _ _ _ hat' hc'
  have hsz : w.heap.size ≤ w'.heap.size := hk2.size
  have hsame : ∀ k p sz es h, (hkF st1 Hd fl).at (.inl k) p sz es h → h.cap ≠ 0 → w'.heap[h.b]? = w.heap[h.b]? := by
    intro k p sz es h hat hc
    obtain ⟨h1, h2⟩ := hA hat hc
    exact hk2.block _ h1 h2
  have hkeep : Keep cx w' := by
    refine ⟨hk2.os.trans hkp.os, hk2.tape.trans hkp.tape, hk2.output.trans hkp.output, Nat.le_trans hkp.size hsz, fun b hb hX => ?_⟩
    have h1 := hkp.size
    rw [hk2.block b (show b < w.heap.size by omega) (fun h => by rcases (hXc b h).2 with h | h; omega; exact hX h)]
    exact hkp.block b hb hX
  refine ⟨?_, hkeep, hsame⟩
  have hleft : HeapOK cx (hkF st1 Hd fun _ => none) w' := by
    refine (hk.less (H' := hkF st1 Hd fun _ => none) (fun i r hir => ?_)).moved hsz (fun i p sz es h hat hc => ?_)
    · cases i with
      | inl k => exact hir
      | inr x => simp [hkF] at hir
    · obtain ⟨r, hir, hrow, hh⟩ := hat
      cases i with
      | inl k => exact hsame k p sz es h ⟨r, hir, hrow, hh⟩ hc
      | inr x => simp [hkF] at hir
  have hE : HeapOK cx (exitHeap fin res Hd2) w' := by
    refine he.rebase (exit_own hf hr Hd2) (fun i p sz es h hat hc => ?_)
    rcases (he.blk _ _ _ _ _ hat hc).2 with h1 | h1
    · left
      have h2 : w.heap.size ≤ h.b := h1
      have := hkp.size
      omega
    · exact (hXc _ h1).2
  have hright : HeapOK cx (fun i => match i with | .inl _ => none | .inr x => exitFl fin res Hd2 x : Heap) w' := by
    refine hE.reindex (fun i => match i with | .inl x => .inl x | .inr x => if x.2 % 2 = 0 then .inl (x.1, x.2 / 2) else .inr (x.1, x.2 / 2)) (fun i r hir => ?_) (fun i j r s hi hj hE => ?_)
    · cases i with
      | inl k => simp at hir
      | inr x =>
        simp only [exitFl] at hir ⊢
        split at hir
        · rename_i h; rw [if_pos h]; exact hir
        · rename_i h; rw [if_neg h]; exact hir
    · cases i with
      | inl k => simp at hi
      | inr x =>
        cases j with
        | inl k => simp at hj
        | inr y =>
          obtain ⟨x1, x2⟩ := x
          obtain ⟨y1, y2⟩ := y
          simp only [] at hE
          split at hE <;> split at hE <;> simp only [Sum.inl.injEq, Sum.inr.injEq, Prod.mk.injEq, reduceCtorEq] at hE
          · obtain ⟨rfl, h2⟩ := hE
            congr 2; omega
          · obtain ⟨rfl, h2⟩ := hE
            congr 2; omega
  refine hleft.union hright (fun i r hir => ?_) (fun i p sz es g i' p' sz' es' g' h1 h2 hc hc' hEq => ?_)
  · cases i with
    | inl k => exact .inl hir
    | inr x => exact .inr hir
  · obtain ⟨r, hir, hrow, hh⟩ := h1
    cases i with
    | inr x => simp [hkF] at hir
    | inl k =>
      obtain ⟨q1, q2⟩ := hA (⟨r, hir, hrow, hh⟩ : (hkF st1 Hd fl).at (.inl k) p sz es g) hc
      obtain ⟨r', hir', hrow', hh'⟩ := h2
      cases i' with
      | inl k' => simp at hir'
      | inr x =>
        have hat2 : ∃ i2, (exitHeap fin res Hd2).at i2 p' sz' es' g' := by
          simp only [exitFl] at hir'
          split at hir'
          · exact ⟨_, r', hir', hrow', hh'⟩
          · exact ⟨_, r', hir', hrow', hh'⟩
        obtain ⟨i2, hat2⟩ := hat2
        rcases (he.blk _ _ _ _ _ hat2 hc').2 with h3 | h3
        · have h4 : w.heap.size ≤ g'.b := h3
          omega
        · rw [hEq] at q2; exact q2 h3
end
end Go.Abs
namespace Go.Abs
open Go
variable [Amb]
section
variable {P : Program} {cx : Cx} {n0 : Nat} {st : St} {Hd : K → Path → Hdr} {a : Act} {w : World} {Kc : Ws → Prop}
theorem Handed.root {ov : Ws} {pls : List Pl} (h : Handed st Hd ov pls) : ∀ pl, pl ∈ pls → pl.p = [] → (∀ ver, known st pl.k ver → ver ≤ pl.ver) ∧ (∃ ver, known st pl.k ver) ∧ ∀ ver, known st pl.k ver → ∃ es0, valid st Hd pl.k ver [] pl.sz es0 (Hd pl.k []) ∧ es0.length = pl.len := by
  induction h with
  | nil => intro pl h; simp at h
  | cons ov pls pl e es h he hv hr hl hf hk hva ih =>
    intro pl' hpl hp
    rcases List.mem_cons.1 hpl with rfl | hpl
    · refine ⟨fun ver hkn => ?_, hk, fun ver hkn => ?_⟩
      · rw [hv]; exact (hf.kn _ _ hkn).2 e he
      · rw [hp] at hr
        obtain ⟨es0, h1, h2⟩ := hf.va _ _ _ _ _ _ hkn ⟨e, he, .inl rfl, hr, rfl⟩
        exact ⟨es0, h1, by rw [h2]; exact hl⟩
    · exact ih pl' hpl hp
theorem Handed.known {ov : Ws} {pls : List Pl} (h : Handed st Hd ov pls) : ∀ pl, pl ∈ pls → ∃ ver, known st pl.k ver := by
  induction h with
  | nil => intro pl h; simp at h
  | cons ov pls pl e es h he hv hr hl hf hk hva ih =>
    intro pl' hpl
    rcases List.mem_cons.1 hpl with rfl | hpl
    · exact hk
    · exact ih pl' hpl
theorem cellOf_bind {fin : List A} {n j sz : Nat} {es : List (List T)} (h : ((fin[n]?).bind (·.ts[j]?)) = some (.s true sz es)) : cellOf fin (n, j) = some (sz, es) := by
  cases hf : fin[n]? with
  | none => simp [hf] at h
  | some a =>
    rw [hf] at h
    simp only [Option.bind_some] at h
    simp only [cellOf, hf, h]
theorem Handed.va {ov : Ws} {pls : List Pl} (h : Handed st Hd ov pls) : ∀ pl, pl ∈ pls → ∃ ver es0, Abs.known st pl.k ver ∧ valid st Hd pl.k ver pl.p pl.sz es0 (Hd pl.k pl.p) ∧ es0.length = pl.len := by
  induction h with
  | nil => intro pl h; simp at h
  | cons ov pls pl e es h he hv hr hl hf hk hva ih =>
    intro pl' hpl
    rcases List.mem_cons.1 hpl with rfl | hpl
    · exact hva
    · exact ih pl' hpl
theorem backs_root {fin : List A} {Hd2 : Ix → Path → Hdr} : ∀ {pls : List Pl} {ov : Ws} {Hd1 : K → Path → Hdr} {flc : K → Option HRow} {f : Ws → M}, (∀ pl, pl ∈ pls → pl.p = []) → (pls.map fun pl => (pl.n, pl.j)).Nodup → HeapOK cx (hkF (app ov st) Hd1 flc) w → Fewer st (app ov st) Hd Hd1 →
    (∀ pl, pl ∈ pls → ∀ sz es, cellOf fin (pl.n, pl.j) = some (sz, es) → flc (pl.n, 2 * pl.j) = some ⟨sz, es, Hd2 (.inl (pl.n, pl.j))⟩) →
    (∀ pl, pl ∈ pls → (∀ ver, known st pl.k ver → ver ≤ pl.ver) ∧ ∀ ver, known st pl.k ver → ∃ es0, valid st Hd pl.k ver [] pl.sz es0 (Hd pl.k []) ∧ es0.length = pl.len) →
    (∀ pl, pl ∈ pls → (cellOf fin (pl.n, pl.j)).isSome → Hd2 (.inl (pl.n, pl.j)) [] = Hd pl.k []) → (backs ov fin pls f).wp P st Kc →
    ∃ ov' Hd1' flc', Fewer st (app ov' st) Hd Hd1' ∧ HeapOK cx (hkF (app ov' st) Hd1' flc') w ∧ (∀ n j, flc' (n, 2 * j + 1) = flc (n, 2 * j + 1)) ∧ (∀ k, st (.k k) = .none → app ov st (.k k) = .none → app ov' st (.k k) = .none) ∧ (f ov').wp P st Kc
  | [], ov, Hd1, flc, f, hp, hnd, hk, hfew, hfl, hrt, hhd, hm => ⟨ov, Hd1, flc, hfew, hk, fun _ _ => rfl, fun _ _ h => h, hm⟩
  | pl :: pls, ov, Hd1, flc, f, hp, hnd, hk, hfew, hfl, hrt, hhd, hm => by
    obtain ⟨hnin, hnd'⟩ := List.nodup_cons.1 hnd
    simp only [backs] at hm
    unfold backT at hm
    split at hm
    · rename_i sz es hfin
      have hcell := cellOf_bind hfin
      obtain ⟨⟨h1, h2⟩, hm1⟩ := hm
      rw [hp pl (List.mem_cons_self ..)] at hm1
      simp only [] at hm1
      split at hm1
      · rename_i hgone
        have hst1 : app ov st (.k pl.k) = .gone := by simp only [app, hgone]
        have hflp := hfl pl (List.mem_cons_self ..) sz es hcell
        obtain ⟨r1, r2⟩ := hrt pl (List.mem_cons_self ..)
        have r3 := hhd pl (List.mem_cons_self ..) (by rw [hcell]; rfl)
        have hknone : hkF (app ov st) Hd1 flc (.inl pl.k) = none := by simp [hkF, HeapOf, hst1]
        have hren := hk.rename (i := .inr (pl.n, 2 * pl.j)) (i2 := .inl pl.k) hflp hknone
        have hheap : HeapOK cx (hkF (app ((.k pl.k, .e ⟨pl.ver + 1, sz, es⟩) :: ov) st) (fun k' => if k' = pl.k then Hd2 (.inl (pl.n, pl.j)) else Hd1 k') (setK flc (pl.n, 2 * pl.j) none)) w := by
          refine hren.less (fun i r hir => ?_)
          rw [app_cons, hkF_setK] at hir
          cases i with
          | inr x =>
            rw [Heap.set_ne _ _ (by simp)]
            by_cases hx : x = (pl.n, 2 * pl.j)
            · subst hx; rw [Heap.set_same] at hir; simp at hir
            · rw [Heap.set_ne _ _ (by simp [hx])] at hir ⊢
              exact hir
          | inl k =>
            rw [Heap.set_ne _ _ (by simp)] at hir
            by_cases hkk : k = pl.k
            · subst hkk
              rw [Heap.set_same]
              simp only [hkF, HeapOf, app_one_same, if_true] at hir
              exact hir
            · rw [Heap.set_ne _ _ (fun e => hkk (Sum.inl.inj e)), Heap.set_ne _ _ (by simp)]
              simp only [hkF, HeapOf, app_one_ne _ _ (fun e => hkk (Loc.k.inj e) : (Loc.k k) ≠ .k pl.k), if_neg hkk] at hir ⊢
              exact hir
        have hfew' : Fewer st (app ((.k pl.k, .e ⟨pl.ver + 1, sz, es⟩) :: ov) st) Hd (fun k' => if k' = pl.k then Hd2 (.inl (pl.n, pl.j)) else Hd1 k') := by
          rw [app_cons]
          refine ⟨fun t => by rw [app_one_ne _ _ (by simp)]; exact hfew.slots t, fun k ver hkn => ?_, fun k ver p sz' es' g hkn hv => ?_⟩
          · by_cases hkk : k = pl.k
            · subst hkk
              refine ⟨by rw [app_one_same]; simp, fun e he => ?_⟩
              rw [app_one_same] at he
              obtain rfl := X.e.inj he
              have := r1 ver hkn
              exact Nat.le_succ_of_le this
            · have h5 : (Loc.k k) ≠ .k pl.k := fun e => hkk (Loc.k.inj e)
              simp only [Abs.known, app_one_ne _ _ h5]
              exact hfew.kn k ver hkn
          · by_cases hkk : k = pl.k
            · subst hkk
              obtain ⟨e, q1, q2, q3, q4⟩ := hv
              rw [app_one_same] at q1
              obtain rfl := X.e.inj q1
              have hp0 : p = [] := by
                rcases q2 with q2 | q2
                · exact q2
                · have := r1 ver hkn
                  simp only [] at q2
                  omega
              subst hp0
              simp only [rowAt, Option.some.injEq, Prod.mk.injEq] at q3
              obtain ⟨rfl, rfl⟩ := q3
              simp only [if_true] at q4
              obtain ⟨es0, s1, s2⟩ := r2 ver hkn
              refine ⟨es0, ?_, by rw [s2]; exact h2.symm⟩
              rw [← q4, r3, h1]
              exact s1
            · have h5 : (Loc.k k) ≠ .k pl.k := fun e => hkk (Loc.k.inj e)
              obtain ⟨e, q1, q2, q3, q4⟩ := hv
              rw [app_one_ne _ _ h5] at q1
              simp only [if_neg hkk] at q4
              exact hfew.va _ _ _ _ _ _ hkn ⟨e, q1, q2, q3, q4⟩
        obtain ⟨ov', Hd1', flc', k1, k2, k3, k4, k5⟩ := backs_root (pls := pls) (fun pl h => hp pl (List.mem_cons_of_mem _ h)) hnd' hheap hfew' (fun pl' h sz' es' hc => by
            have hne : (pl'.n, pl'.j) ≠ (pl.n, pl.j) := fun e => hnin (List.mem_map.2 ⟨pl', h, e⟩)
            have hne2 : (pl'.n, 2 * pl'.j) ≠ (pl.n, 2 * pl.j) := by
              intro e
              simp only [Prod.mk.injEq] at e
              exact hne (by rw [e.1, show pl'.j = pl.j by omega])
            simp only [setK, if_neg hne2]
            exact hfl pl' (List.mem_cons_of_mem _ h) sz' es' hc) (fun pl h => hrt pl (List.mem_cons_of_mem _ h)) (fun pl h => hhd pl (List.mem_cons_of_mem _ h)) hm1
        refine ⟨ov', Hd1', flc', k1, k2, fun n j => ?_, fun k h0 h => ?_, k5⟩
        · rw [k3 n j]
          have hne2 : (n, 2 * j + 1) ≠ (pl.n, 2 * pl.j) := by intro e; simp only [Prod.mk.injEq] at e; omega
          simp only [setK, if_neg hne2]
        · refine k4 k h0 ?_
          have hkk : k ≠ pl.k := by rintro rfl; rw [hst1] at h; simp at h
          rw [app_cons, app_one_ne _ _ (fun e => hkk (Loc.k.inj e))]
          exact h
      · exact hm1.elim
    · exact backs_root (pls := pls) (fun pl h => hp pl (List.mem_cons_of_mem _ h)) hnd' hk hfew (fun pl h => hfl pl (List.mem_cons_of_mem _ h)) (fun pl h => hrt pl (List.mem_cons_of_mem _ h)) (fun pl h => hhd pl (List.mem_cons_of_mem _ h)) hm
    · exact hm.elim
theorem setAt_eq {e : Ent} {q : Path} {a b s1 : Nat} {r1 : List (List T)} {t : T} (h : rowAt e.sz e.es q = some (s1, r1)) : setAt e.es q e.sz a b t = setRow e.es q (setCell r1 a b t) := by simp [setAt, h]
theorem backs_nested {fin : List A} {Hd2 : Ix → Path → Hdr} {pl : Pl} {ov : Ws} {flc : K → Option HRow} {f : Ws → M} {w' : World} (hk0 : HeapOK cx (HeapOf st Hd) w) (hh : Handed st Hd ov [pl]) (hp : pl.p ≠ []) (hk : HeapOK cx (hkF (app ov st) Hd flc) w') (hfew : Fewer st (app ov st) Hd Hd)
    (hsame : ∀ (k : K) (p : Path) (sz : Nat) (es : List (List T)) (h : Hdr) (e : Ent), app ov st (.k k) = .e e → rowAt e.sz e.es p = some (sz, es) → Hd k p = h → h.cap ≠ 0 → w'.heap[h.b]? = w.heap[h.b]?)
    (hfl : ∀ sz es, cellOf fin (pl.n, pl.j) = some (sz, es) → flc (pl.n, 2 * pl.j) = some ⟨sz, es, Hd2 (.inl (pl.n, pl.j))⟩)
    (hhd : (cellOf fin (pl.n, pl.j)).isSome → Hd2 (.inl (pl.n, pl.j)) [] = Hd pl.k pl.p) (hm : (backs ov fin [pl] f).wp P st Kc) :
    ∃ ov' Hd1' flc', Fewer st (app ov' st) Hd Hd1' ∧ HeapOK cx (hkF (app ov' st) Hd1' flc') w' ∧ (∀ n j, flc' (n, 2 * j + 1) = flc (n, 2 * j + 1)) ∧ (∀ k, st (.k k) = .none → app ov st (.k k) = .none → app ov' st (.k k) = .none) ∧ (f ov').wp P st Kc := by
  simp only [backs] at hm
  unfold backT at hm
  split at hm
  · rename_i sz es hfin
    have hcell := cellOf_bind hfin
    obtain ⟨⟨h1, h2⟩, hm1⟩ := hm
    cases hh with
    | cons ov0 _ _ e es0 hh0 he hv hr hl hf hkn hva =>
    cases hh0
    have he0 : st (.k pl.k) = .e e := he
    cases hpp : pl.p with
    | nil => exact absurd hpp hp
    | cons x p =>
    obtain ⟨q, a1, b1, hq⟩ := path_split x p
    have hd1 : (x :: p).dropLast = q := by rw [hq]; simp
    have hd2 : (x :: p).getLast? = some (a1, b1) := by rw [hq]; simp
    rw [hpp] at hm1 hr hhd hk hfew hsame
    simp only [hd1, hd2, Option.getD_some] at hm1
    rw [hq] at hr hhd
    obtain ⟨s1, r1, hr1, hc1⟩ := rowAt_snoc hr
    have hg : gone pl.k (x :: p) e = (.k pl.k, .e { e with es := setRow e.es q (setCell r1 a1 b1 .d) }) := by
      simp only [gone, holed, hd1, hd2, Option.getD_some]
      rw [setAt_eq hr1]
    obtain ⟨e1, he1, hm2⟩ := getE_inv hm1
    have hst1 : app (gone pl.k (x :: p) e :: []) st (.k pl.k) = .e { e with es := setRow e.es q (setCell r1 a1 b1 .d) } := by rw [hg]; exact app_one_same _ _ _
    rw [hst1] at he1
    obtain rfl := X.e.inj he1
    simp only [] at hm2
    have hrq : rowAt e.sz (setRow e.es q (setCell r1 a1 b1 .d)) q = some (s1, setCell r1 a1 b1 .d) := rowAt_setRow_same hr1
    rw [hrq] at hm2
    simp only [] at hm2
    split at hm2
    · rename_i hcd
      have hflp := hfl sz es hcell
      have r3 := hhd (by rw [hcell]; rfl)
      have hHk : hkF (app (gone pl.k (x :: p) e :: []) st) Hd flc (.inl pl.k) = some ⟨e.sz, setRow e.es q (setCell r1 a1 b1 .d), Hd pl.k⟩ := HeapOf_some hst1
      -- the cell's value
      have hrow := hk0.row (HeapOf_some he0) hr1
      unfold cellAt at hc1
      cases hra : r1[a1]? with
      | none => simp [hra] at hc1
      | some el =>
      rw [hra] at hc1
      simp only [Option.bind_some] at hc1
      have hcap : (Hd pl.k q).cap ≠ 0 := cap_ne hrow hra
      obtain ⟨c, E, k1, k2, k3⟩ := hrow.2 hcap
      obtain ⟨y, hy, hok⟩ := (k3 _ el hra).2 _ _ hc1
      have hblk := hsame pl.k q _ _ _ _ hst1 hrq rfl hcap
      have hyw : w'.cell? ⟨(Hd pl.k q).b, (Hd pl.k q).o + (a1 * s1 + b1), none⟩ = some y := by
        rw [cell_same hblk]
        simp only [World.cell?, k1]
        exact hy
      have hatt := hk.attach (i := .inl pl.k) (i2 := .inr (pl.n, 2 * pl.j)) (a := a1) (b := b1) (y := y) hHk hrq hflp (by simp) (fun z zs h => by rw [h] at hcd; simp at hcd) (fun _ _ => hyw) (by
          obtain ⟨aa, rfl, hca⟩ := hok
          refine ⟨aa, ?_, ?_⟩
          · simp only [r3]
            have : es0.length = es.length := by rw [hl, h2]
            rw [this]
          · simp only [r3]; exact hca)
      refine ⟨_, fun k' => if k' = pl.k then graft (Hd pl.k) (q ++ [(a1, b1)]) (Hd2 (.inl (pl.n, pl.j))) else Hd k', setK flc (pl.n, 2 * pl.j) none, ?_, ?_, fun n j => ?_, fun k h0 h => ?_, hm2⟩
      · rw [app_cons]
        refine ⟨fun t => by rw [app_one_ne _ _ (by simp)]; exact hfew.slots t, fun k ver hkn => ?_, fun k ver p' sz' es' g hkn hv => ?_⟩
        · by_cases hkk : k = pl.k
          · subst hkk
            refine ⟨by rw [app_one_same]; simp, fun e' he' => ?_⟩
            rw [app_one_same] at he'
            obtain rfl := X.e.inj he'
            have := hkn.2 e he0
            exact Nat.le_succ_of_le this
          · have h5 : (Loc.k k) ≠ .k pl.k := fun e => hkk (Loc.k.inj e)
            simp only [Abs.known, app_one_ne _ _ h5]
            exact hfew.kn k ver hkn
        · by_cases hkk : k = pl.k
          · subst hkk
            obtain ⟨e', q1, q2, q3, q4⟩ := hv
            rw [app_one_same] at q1
            obtain rfl := X.e.inj q1
            have hp0 : p' = [] := by
              rcases q2 with q2 | q2
              · exact q2
              · have := hkn.2 e he0
                simp only [] at q2
                omega
            subst hp0
            simp only [rowAt, Option.some.injEq, Prod.mk.injEq] at q3
            obtain ⟨rfl, rfl⟩ := q3
            simp only [if_true] at q4
            refine ⟨e.es, ⟨e, he0, .inl rfl, rfl, ?_⟩, ?_⟩
            · rw [← q4, graft_not (by simp)]
            · rw [setAt_eq (e := ⟨e.ver, e.sz, setRow e.es q (setCell r1 a1 b1 .d)⟩) hrq, setRow_length hrq (setCell_length _ _ _ _), setRow_length hr1 (setCell_length _ _ _ _)]
          · have h5 : (Loc.k k) ≠ .k pl.k := fun e => hkk (Loc.k.inj e)
            obtain ⟨e', q1, q2, q3, q4⟩ := hv
            rw [app_one_ne _ _ h5] at q1
            simp only [if_neg hkk] at q4
            exact hfew.va _ _ _ _ _ _ hkn ⟨e', q1, q2, q3, q4⟩
      · refine hatt.less (fun i r hir => ?_)
        rw [app_cons, hkF_setK] at hir
        cases i with
        | inr x =>
          by_cases hx : x = (pl.n, 2 * pl.j)
          · subst hx; rw [Heap.set_same] at hir; simp at hir
          · rw [Heap.set_ne _ _ (by simp [hx])] at hir ⊢
            rw [Heap.set_ne _ _ (by simp)]
            exact hir
        | inl k =>
          rw [Heap.set_ne _ _ (by simp)] at hir ⊢
          by_cases hkk : k = pl.k
          · subst hkk
            rw [Heap.set_same]
            simp only [hkF, HeapOf, app_one_same, if_true] at hir
            rw [← hir, setAt_eq (e := ⟨e.ver, e.sz, setRow e.es q (setCell r1 a1 b1 .d)⟩) hrq]
          · rw [Heap.set_ne _ _ (fun e => hkk (Sum.inl.inj e))]
            simp only [hkF, HeapOf, app_one_ne _ _ (fun e => hkk (Loc.k.inj e) : (Loc.k k) ≠ .k pl.k), if_neg hkk] at hir ⊢
            exact hir
      · have hne2 : (n, 2 * j + 1) ≠ (pl.n, 2 * pl.j) := by intro e; simp only [Prod.mk.injEq] at e; omega
        simp only [setK, if_neg hne2]
      · have hkk : k ≠ pl.k := by rintro rfl; rw [he0] at h0; simp at h0
        rw [app_cons, app_one_ne _ _ (fun e => hkk (Loc.k.inj e))]
        exact h
    · exact hm2.elim
  · exact ⟨ov, Hd, flc, hfew, hk, fun _ _ => rfl, fun _ _ h => h, hm⟩
  · exact hm.elim
theorem backs_flat {fin : List A} {Hd2 : Ix → Path → Hdr} {w' : World} {R : K → Prop} : ∀ {pls : List Pl} {ov : Ws} {Hd1 : K → Path → Hdr} {flc : K → Option HRow} {f : Ws → M}, (∀ pl, pl ∈ pls → ∃ a b, pl.p = [(a, b)]) → (pls.map fun pl => (pl.n, pl.j)).Nodup → HeapOK cx (hkF (app ov st) Hd1 flc) w' → Fewer st (app ov st) Hd Hd1 →
    (∀ pl, pl ∈ pls → ∀ sz es, cellOf fin (pl.n, pl.j) = some (sz, es) → flc (pl.n, 2 * pl.j) = some ⟨sz, es, Hd2 (.inl (pl.n, pl.j))⟩) → (∀ pl, pl ∈ pls → ∃ ver, known st pl.k ver) → (∀ k e, app ov st (.k k) = .e e → R k) →
    (∀ pl, pl ∈ pls → ∀ sz es, cellOf fin (pl.n, pl.j) = some (sz, es) → es.length = pl.len → ∀ a b, pl.p = [(a, b)] → ∀ e0, st (.k pl.k) = .e e0 → R pl.k → ∃ y, w'.cell? ⟨(Hd pl.k []).b, (Hd pl.k []).o + (a * e0.sz + b), none⟩ = some y ∧ TOK cx (Hd2 (.inl (pl.n, pl.j)) []) (.s true sz es) y) → (backs ov fin pls f).wp P st Kc →
    ∃ ov' Hd1' flc', Fewer st (app ov' st) Hd Hd1' ∧ HeapOK cx (hkF (app ov' st) Hd1' flc') w' ∧ (∀ n j, flc' (n, 2 * j + 1) = flc (n, 2 * j + 1)) ∧ (∀ k, st (.k k) = .none → app ov st (.k k) = .none → app ov' st (.k k) = .none) ∧ (f ov').wp P st Kc
  | [], ov, Hd1, flc, f, hp, hnd, hk, hfew, hfl, hkn, hR, hmem, hm => ⟨ov, Hd1, flc, hfew, hk, fun _ _ => rfl, fun _ _ h => h, hm⟩
  | pl :: pls, ov, Hd1, flc, f, hp, hnd, hk, hfew, hfl, hkn, hR, hmem, hm => by
    obtain ⟨hnin, hnd'⟩ := List.nodup_cons.1 hnd
    obtain ⟨a1, b1, hpl⟩ := hp pl (List.mem_cons_self ..)
    simp only [backs] at hm
    unfold backT at hm
    split at hm
    · rename_i sz es hfin
      have hcell := cellOf_bind hfin
      obtain ⟨⟨h1, h2⟩, hm1⟩ := hm
      rw [hpl] at hm1
      simp only [List.dropLast_singleton, List.getLast?_singleton, Option.getD_some, rowAt] at hm1
      obtain ⟨e1, he1, hm2⟩ := getE_inv hm1
      split at hm2
      · rename_i hcd
        obtain ⟨ver, hknv⟩ := hkn pl (List.mem_cons_self ..)
        obtain ⟨es0, ⟨e0, q1, _, q3, q4⟩, hl0⟩ := hfew.va _ _ [] _ _ _ hknv ⟨e1, he1, .inl rfl, rfl, rfl⟩
        simp only [rowAt, Option.some.injEq, Prod.mk.injEq] at q3
        obtain ⟨y, hy1, hy2⟩ := hmem pl (List.mem_cons_self ..) sz es hcell h2 a1 b1 hpl e0 q1 (hR _ _ he1)
        have hflp := hfl pl (List.mem_cons_self ..) sz es hcell
        have hHk : hkF (app ov st) Hd1 flc (.inl pl.k) = some ⟨e1.sz, e1.es, Hd1 pl.k⟩ := HeapOf_some he1
        have hatt := hk.attach (i := .inl pl.k) (i2 := .inr (pl.n, 2 * pl.j)) (p := []) (sz := e1.sz) (es := e1.es) (a := a1) (b := b1) (y := y) hHk rfl hflp (by simp) (fun z zs h => by rw [h] at hcd; simp at hcd) (fun _ _ => by
          show w'.cell? ⟨(Hd1 pl.k []).b, (Hd1 pl.k []).o + (a1 * e1.sz + b1), none⟩ = some y
          rw [← q4, ← q3.1]; exact hy1) hy2
        have hset : setAt e1.es [] e1.sz a1 b1 (.s true sz es) = setRow e1.es [] (setCell e1.es a1 b1 (.s true sz es)) := by simp [setAt, rowAt]
        have hfew' : Fewer st (app ((.k pl.k, .e ⟨e1.ver + 1, e1.sz, setAt e1.es [] e1.sz a1 b1 (.s true sz es)⟩) :: ov) st) Hd (fun k' => if k' = pl.k then graft (Hd1 pl.k) ([] ++ [(a1, b1)]) (Hd2 (.inl (pl.n, pl.j))) else Hd1 k') := by
          rw [app_cons]
          refine ⟨fun t => by rw [app_one_ne _ _ (by simp)]; exact hfew.slots t, fun k ver hkn => ?_, fun k ver p' sz' es' g hkn hv => ?_⟩
          · by_cases hkk : k = pl.k
            · subst hkk
              refine ⟨by rw [app_one_same]; simp, fun e' he' => ?_⟩
              rw [app_one_same] at he'
              obtain rfl := X.e.inj he'
              have := (hfew.kn _ _ hkn).2 e1 he1
              exact Nat.le_succ_of_le this
            · have h5 : (Loc.k k) ≠ .k pl.k := fun e => hkk (Loc.k.inj e)
              simp only [Abs.known, app_one_ne _ _ h5]
              exact hfew.kn k ver hkn
          · by_cases hkk : k = pl.k
            · subst hkk
              obtain ⟨e', r1, r2, r3, r4⟩ := hv
              rw [app_one_same] at r1
              obtain rfl := X.e.inj r1
              have hp0 : p' = [] := by
                rcases r2 with r2 | r2
                · exact r2
                · have := (hfew.kn _ _ hkn).2 e1 he1
                  simp only [] at r2
                  omega
              subst hp0
              simp only [rowAt, Option.some.injEq, Prod.mk.injEq] at r3
              obtain ⟨rfl, rfl⟩ := r3
              simp only [if_true] at r4
              rw [graft_not (by simp)] at r4
              obtain ⟨es2, s1, s2⟩ := hfew.va _ _ [] _ _ _ hkn ⟨e1, he1, .inl rfl, rfl, rfl⟩
              refine ⟨es2, ?_, ?_⟩
              · rw [← r4]; exact s1
              · rw [s2, hset, setRow, setCell_length]
            · have h5 : (Loc.k k) ≠ .k pl.k := fun e => hkk (Loc.k.inj e)
              obtain ⟨e', r1, r2, r3, r4⟩ := hv
              rw [app_one_ne _ _ h5] at r1
              simp only [if_neg hkk] at r4
              exact hfew.va _ _ _ _ _ _ hkn ⟨e', r1, r2, r3, r4⟩
        have hheap : HeapOK cx (hkF (app ((.k pl.k, .e ⟨e1.ver + 1, e1.sz, setAt e1.es [] e1.sz a1 b1 (.s true sz es)⟩) :: ov) st) (fun k' => if k' = pl.k then graft (Hd1 pl.k) ([] ++ [(a1, b1)]) (Hd2 (.inl (pl.n, pl.j))) else Hd1 k') (setK flc (pl.n, 2 * pl.j) none)) w' := by
          refine hatt.less (fun i r hir => ?_)
          rw [app_cons, hkF_setK] at hir
          cases i with
          | inr x =>
            by_cases hx : x = (pl.n, 2 * pl.j)
            · subst hx; rw [Heap.set_same] at hir; simp at hir
            · rw [Heap.set_ne _ _ (by simp [hx])] at hir ⊢
              rw [Heap.set_ne _ _ (by simp)]
              exact hir
          | inl k =>
            rw [Heap.set_ne _ _ (by simp)] at hir ⊢
            by_cases hkk : k = pl.k
            · subst hkk
              rw [Heap.set_same]
              simp only [hkF, HeapOf, app_one_same, if_true] at hir
              rw [← hir, hset]
            · rw [Heap.set_ne _ _ (fun e => hkk (Sum.inl.inj e))]
              simp only [hkF, HeapOf, app_one_ne _ _ (fun e => hkk (Loc.k.inj e) : (Loc.k k) ≠ .k pl.k), if_neg hkk] at hir ⊢
              exact hir
        obtain ⟨ov', Hd1', flc', k1, k2, k3, k4, k5⟩ := backs_flat (pls := pls) (fun pl h => hp pl (List.mem_cons_of_mem _ h)) hnd' hheap hfew' (fun pl' h sz' es' hc => by
            have hne : (pl'.n, pl'.j) ≠ (pl.n, pl.j) := fun e => hnin (List.mem_map.2 ⟨pl', h, e⟩)
            have hne2 : (pl'.n, 2 * pl'.j) ≠ (pl.n, 2 * pl.j) := by
              intro e
              simp only [Prod.mk.injEq] at e
              exact hne (by rw [e.1, show pl'.j = pl.j by omega])
            simp only [setK, if_neg hne2]
            exact hfl pl' (List.mem_cons_of_mem _ h) sz' es' hc) (fun pl h => hkn pl (List.mem_cons_of_mem _ h)) (fun k e he => by
            by_cases hkk : k = pl.k
            · subst hkk; exact hR _ _ he1
            · rw [app_cons, app_one_ne _ _ (fun e => hkk (Loc.k.inj e))] at he; exact hR _ _ he) (fun pl h => hmem pl (List.mem_cons_of_mem _ h)) hm2
        refine ⟨ov', Hd1', flc', k1, k2, fun n j => ?_, fun k h0 h => ?_, k5⟩
        · rw [k3 n j]
          have hne2 : (n, 2 * j + 1) ≠ (pl.n, 2 * pl.j) := by intro e; simp only [Prod.mk.injEq] at e; omega
          simp only [setK, if_neg hne2]
        · refine k4 k h0 ?_
          have hkk : k ≠ pl.k := by rintro rfl; rw [he1] at h; simp at h
          rw [app_cons, app_one_ne _ _ (fun e => hkk (Loc.k.inj e))]
          exact h
      · exact hm2.elim
    · exact backs_flat (pls := pls) (fun pl h => hp pl (List.mem_cons_of_mem _ h)) hnd' hk hfew (fun pl h => hfl pl (List.mem_cons_of_mem _ h)) (fun pl h => hkn pl (List.mem_cons_of_mem _ h)) hR (fun pl h => hmem pl (List.mem_cons_of_mem _ h)) hm
    · exact hm.elim
end
end Go.Abs
namespace Go.Abs
open Go
variable [Amb]
def ResC (d : Tmp) (n j : Nat) (t : T) (c : C) (ws : Ws) : Prop := (∃ x, t = .v x ∧ c = .v x) ∨ (∃ sz es, t = .s true sz es ∧ c = .r (d, 64 * n + j) 0 [] 0 es.length ∧ (Loc.k (d, 64 * n + j), X.e ⟨0, sz, es⟩) ∈ ws ∧ j < 64)
def ResV (d : Tmp) (n : Nat) (a : A) (v : V) (ws : Ws) : Prop := match a with
  | .c t => ∃ c, v = .c c ∧ ResC d n 0 t c ws
  | .a ts => ∃ cs, v = .a cs ∧ cs.length = ts.length ∧ ∀ (j : Nat) (t : T) (c : C), ts[j]? = some t → cs[j]? = some c → ResC d n j t c ws
  | .p sz es => es.length = 1 ∧ v = .p (d, 64 * n) 0 [] 0 0 ∧ ResC d n 0 (.s true sz es) (.r (d, 64 * n) 0 [] 0 es.length) ws
  | _ => False
theorem ResC.mono {d : Tmp} {n j : Nat} {t : T} {c : C} {ws ws' : Ws} (h : ResC d n j t c ws) (hs : ∀ x, x ∈ ws → x ∈ ws') : ResC d n j t c ws' :=
  h.imp id fun ⟨sz, es, h1, h2, h3, h4⟩ => ⟨sz, es, h1, h2, hs _ h3, h4⟩
theorem ResV.mono {d : Tmp} {n : Nat} {a : A} {v : V} {ws ws' : Ws} (h : ResV d n a v ws) (hs : ∀ x, x ∈ ws → x ∈ ws') : ResV d n a v ws' := by
  cases a with
  | c t => obtain ⟨c, h1, h2⟩ := h; exact ⟨c, h1, h2.mono hs⟩
  | a ts => obtain ⟨cs, h1, h2, h3⟩ := h; exact ⟨cs, h1, h2, fun j t c h4 h5 => (h3 j t c h4 h5).mono hs⟩
  | p _ _ => obtain ⟨h1, h2, h3⟩ := h; exact ⟨h1, h2, h3.mono hs⟩
  | q _ _ _ _ => exact h.elim
  | f _ _ => exact h.elim
section
variable {P : Program} {md : Nat → Nat → Bool} {cx : Cx} {n0 : Nat} {st : St} {Hd : K → Path → Hdr} {a : Act} {w : World} {o : Oper} {Kc : Ws → Prop} {KC : Act → World → Prop} {Q : Exit → Act → World → Prop}
theorem resC_ok {d : Tmp} {n : Nat} : ∀ {j : Nat} {ts : List T} {f : Ws → List C → M}, (resC d n j ts f).wp P st Kc →
    ∃ ws cs, (f ws cs).wp P st Kc ∧ cs.length = ts.length ∧ (∀ l x, (l, x) ∈ ws → ∃ i sz es, ts[i]? = some (.s true sz es) ∧ j + i < 64 ∧ l = .k (d, 64 * n + (j + i)) ∧ x = .e ⟨0, sz, es⟩ ∧ st l = .none) ∧
      ∀ (i : Nat) (t : T) (c : C), ts[i]? = some t → cs[i]? = some c → ResC d n (j + i) t c ws
  | j, [], f, hm => ⟨[], [], hm, rfl, fun l x h => by simp at h, fun i t c h => by simp at h⟩
  | j, .d :: ts, f, hm => hm.elim
  | j, .s false _ _ :: ts, f, hm => hm.elim
  | j, .v y :: ts, f, hm => by
    obtain ⟨ws, cs, h1, h2, h3, h4⟩ := resC_ok (j := j + 1) (ts := ts) hm
    refine ⟨ws, _, h1, by simp [h2], fun l x h => ?_, fun i t c ht hc => ?_⟩
    · obtain ⟨i, sz, es, k1, k2, k3, k4, k5⟩ := h3 l x h
      exact ⟨i + 1, sz, es, by simpa using k1, by omega, by rw [k3]; congr 2; omega, k4, k5⟩
    · cases i with
      | zero => simp at ht hc; subst ht; subst hc; exact .inl ⟨y, rfl, rfl⟩
      | succ i => have := h4 i t c (by simpa using ht) (by simpa using hc); rw [show j + 1 + i = j + (i + 1) by omega] at this; exact this
  | j, .s true sz es :: ts, f, hm => by
    simp only [resC] at hm
    obtain ⟨hk, hj, hm1⟩ := fresh_inv hm
    obtain ⟨ws, cs, h1, h2, h3, h4⟩ := resC_ok (j := j + 1) (ts := ts) hm1
    refine ⟨_, _, h1, by simp [h2], fun l x h => ?_, fun i t c ht hc => ?_⟩
    · rcases List.mem_cons.1 h with h | h
      · obtain ⟨rfl, rfl⟩ := Prod.mk.inj h
        exact ⟨0, sz, es, rfl, hj, rfl, rfl, hk⟩
      · obtain ⟨i, sz, es, k1, k2, k3, k4, k5⟩ := h3 l x h
        exact ⟨i + 1, sz, es, by simpa using k1, by omega, by rw [k3]; congr 2; omega, k4, k5⟩
    · cases i with
      | zero => simp at ht hc; subst ht; subst hc; exact .inr ⟨sz, es, rfl, rfl, List.mem_cons_self .., hj⟩
      | succ i =>
        have := h4 i t c (by simpa using ht) (by simpa using hc)
        rw [show j + 1 + i = j + (i + 1) by omega] at this
        exact this.mono fun x hx => List.mem_cons_of_mem _ hx
theorem resV_ok {d : Tmp} {n : Nat} {a : A} {f : Ws → V → M} (hm : (resV d n a f).wp P st Kc) :
    ∃ ws v, (f ws v).wp P st Kc ∧ (∀ l x, (l, x) ∈ ws → ∃ j sz es, a.ts[j]? = some (.s true sz es) ∧ j < 64 ∧ l = .k (d, 64 * n + j) ∧ x = .e ⟨0, sz, es⟩ ∧ st l = .none) ∧ ResV d n a v ws := by
  cases a with
  | c t =>
    obtain ⟨ws, cs, h1, h2, h3, h4⟩ := resC_ok hm
    cases cs with
    | nil => simp at h2
    | cons c cs =>
      cases cs with
      | cons _ _ => simp at h2
      | nil =>
        refine ⟨ws, .c c, h1, fun l x h => ?_, c, rfl, by simpa using h4 0 t c rfl rfl⟩
        obtain ⟨i, sz, es, k1, k2, k3, k4, k5⟩ := h3 l x h
        exact ⟨i, sz, es, k1, by omega, by rw [k3, Nat.zero_add], k4, k5⟩
  | a ts =>
    obtain ⟨ws, cs, h1, h2, h3, h4⟩ := resC_ok hm
    refine ⟨ws, .a cs, h1, fun l x h => ?_, cs, rfl, h2, fun j t c ht hc => by simpa using h4 j t c ht hc⟩
    obtain ⟨i, sz, es, k1, k2, k3, k4, k5⟩ := h3 l x h
    exact ⟨i, sz, es, k1, by omega, by rw [k3, Nat.zero_add], k4, k5⟩
  | p sz es =>
    obtain ⟨hl, hm⟩ := hm
    obtain ⟨ws, cs, h1, h2, h3, h4⟩ := resC_ok hm
    cases cs with
    | nil => simp at h2
    | cons c cs =>
      have h5 := h4 0 (.s true sz es) c rfl rfl
      have h6 : c = .r (d, 64 * n) 0 [] 0 es.length := by
        rcases h5 with ⟨x, hx, _⟩ | ⟨sz', es', hx, hc, _⟩
        · simp at hx
        · simp only [T.s.injEq, true_and] at hx
          obtain ⟨rfl, rfl⟩ := hx
          simpa using hc
      subst h6
      refine ⟨ws, _, h1, fun l x h => ?_, hl, rfl, by simpa using h5⟩
      obtain ⟨i, sz', es', k1, k2, k3, k4, k5⟩ := h3 l x h
      exact ⟨i, sz', es', k1, by omega, by rw [k3, Nat.zero_add], k4, k5⟩
  | q _ _ _ _ => exact hm.elim
  | f _ _ => exact hm.elim
theorem resVs_ok {d : Tmp} : ∀ {n : Nat} {as : List A} {f : Ws → List V → M}, (resVs d n as f).wp P st Kc →
    ∃ ws vs, (f ws vs).wp P st Kc ∧ vs.length = as.length ∧ (∀ l x, (l, x) ∈ ws → ∃ i a j sz es, as[i]? = some a ∧ a.ts[j]? = some (.s true sz es) ∧ j < 64 ∧ l = .k (d, 64 * (n + i) + j) ∧ x = .e ⟨0, sz, es⟩ ∧ st l = .none) ∧
      ∀ (i : Nat) (a : A) (v : V), as[i]? = some a → vs[i]? = some v → ResV d (n + i) a v ws
  | n, [], f, hm => ⟨[], [], hm, rfl, fun l x h => by simp at h, fun i t c h => by simp at h⟩
  | n, a :: as, f, hm => by
    obtain ⟨ws, v, h1, h2, h3⟩ := resV_ok hm
    obtain ⟨ws', vs, k1, k2, k3, k4⟩ := resVs_ok (n := n + 1) (as := as) h1
    refine ⟨ws ++ ws', v :: vs, k1, by simp [k2], fun l x h => ?_, fun i a' v' ha hv => ?_⟩
    · rcases List.mem_append.1 h with h | h
      · obtain ⟨j, sz, es, q⟩ := h2 l x h; exact ⟨0, a, j, sz, es, rfl, q⟩
      · obtain ⟨i, a', j, sz, es, q1, q2, q3, q4, q5⟩ := k3 l x h
        exact ⟨i + 1, a', j, sz, es, by simpa using q1, q2, q3, by rw [q4]; congr 2; omega, q5⟩
    · cases i with
      | zero => simp at ha hv; subst ha; subst hv; exact h3.mono fun x hx => List.mem_append_left _ hx
      | succ i =>
        have := k4 i a' v' (by simpa using ha) (by simpa using hv)
        rw [show n + 1 + i = n + (i + 1) by omega] at this
        exact this.mono fun x hx => List.mem_append_right _ hx
theorem ovl_mem : ∀ {ws : Ws} {l : Loc} {x : X}, ovl ws l = some x → (l, x) ∈ ws
  | [], l, x, h => by simp [ovl] at h
  | (l', x') :: ws, l, x, h => by
    simp only [ovl] at h
    split at h
    · rename_i hl
      obtain rfl := Option.some.inj h
      rw [← hl]
      exact List.mem_cons_self ..
    · exact List.mem_cons_of_mem _ (ovl_mem h)
theorem ovl_of_mem : ∀ {ws : Ws} {l : Loc} {x : X}, (l, x) ∈ ws → (ovl ws l).isSome = true
  | (l', x') :: ws, l, x, h => by
    simp only [ovl]
    split
    · rfl
    · rename_i hl
      rcases List.mem_cons.1 h with h | h
      · exact absurd (Prod.mk.inj h).1.symm (fun e => hl (by rw [e]))
      · exact ovl_of_mem h
def resHd (ws : Ws) (Hd1 : K → Path → Hdr) (Hd2 : Ix → Path → Hdr) : K → Path → Hdr := fun k => if (ovl ws (.k k)).isSome = true then Hd2 (.inr (k.2 / 64, k.2 % 64)) else Hd1 k
theorem res_rel (h : Rel cx n0 st Hd a w) {w' : World} (hkp' : Keep cx w') {ov : Ws} {Hd1 : K → Path → Hdr} {flc : K → Option HRow} {fin res : List A} {Hd2 : Ix → Path → Hdr} (hfew : Fewer st (app ov st) Hd Hd1) (hk : HeapOK cx (hkF (app ov st) Hd1 flc) w')
    (hfl : ∀ n j, flc (n, 2 * j + 1) = exitFl fin res Hd2 (n, 2 * j + 1)) {d : Tmp} {ws : Ws} (hws : ∀ l x, (l, x) ∈ ws → ∃ i a j sz es, res[i]? = some a ∧ a.ts[j]? = some (.s true sz es) ∧ j < 64 ∧ l = .k (d, 64 * (0 + i) + j) ∧ x = .e ⟨0, sz, es⟩ ∧ st l = .none) :
    Rel cx n0 (app (ws ++ ov) st) (resHd ws Hd1 Hd2) a w' ∧ (∀ n j sz es, (Loc.k (d, 64 * n + j), X.e ⟨0, sz, es⟩) ∈ ws → j < 64 → app (ws ++ ov) st (.k (d, 64 * n + j)) = .e ⟨0, sz, es⟩ ∧ resHd ws Hd1 Hd2 (d, 64 * n + j) = Hd2 (.inr (n, j))) := by
  have hkey : ∀ (k : K) (x : X), ovl ws (.k k) = some x → k.1 = d ∧ (∃ sz es, x = .e ⟨0, sz, es⟩ ∧ cellOf res (k.2 / 64, k.2 % 64) = some (sz, es)) ∧ st (.k k) = .none := by
    intro k x hx
    obtain ⟨i, a, j, sz, es, q1, q2, q3, q4, q5, q6⟩ := hws _ _ (ovl_mem hx)
    obtain rfl := Loc.k.inj q4
    refine ⟨rfl, ⟨sz, es, q5, ?_⟩, q6⟩
    have e1 : (64 * (0 + i) + j) / 64 = i := by omega
    have e2 : (64 * (0 + i) + j) % 64 = j := by omega
    simp only [e1, e2, cellOf, q1, q2]
  have hslot : ∀ t, ovl ws (.s t) = none := by
    intro t
    cases hx : ovl ws (.s t) with
    | none => rfl
    | some x => obtain ⟨i, a, j, sz, es, q1, q2, q3, q4, _⟩ := hws _ _ (ovl_mem hx); simp at q4
  have hout : ∀ l, ovl ws l = none → app (ws ++ ov) st l = app ov st l := by
    intro l hl
    rw [app_append]
    simp only [app, hl]
  have hkn0 : ∀ k ver, known st k ver → ovl ws (.k k) = none := by
    intro k ver hkn
    cases hx : ovl ws (.k k) with
    | none => rfl
    | some x => exact absurd (hkey k x hx).2.2 hkn.1
  refine ⟨h.step (fun t => ?_) (fun k ver hkn => ?_) (fun k ver p sz es g hkn hv => ?_) ?_ hkp', ?_⟩
  · rw [hout _ (hslot t)]; exact hfew.slots t
  · have := hout _ (hkn0 k ver hkn)
    simp only [known, this]
    exact hfew.kn k ver hkn
  · have h0 := hkn0 k ver hkn
    obtain ⟨e, q1, q2, q3, q4⟩ := hv
    rw [hout _ h0] at q1
    simp only [resHd, h0, Option.isSome_none, Bool.false_eq_true, if_false] at q4
    exact hfew.va _ _ _ _ _ _ hkn ⟨e, q1, q2, q3, q4⟩
  · refine hk.reindex (fun i => match i with | .inl k => if (ovl ws (.k k)).isSome = true then .inr (k.2 / 64, 2 * (k.2 % 64) + 1) else .inl k | .inr x => .inr x) (fun i r hir => ?_) (fun i j r s hi hj hE => ?_)
    · cases i with
      | inr x => simp [HeapOf] at hir
      | inl k =>
        simp only []
        cases hx : ovl ws (.k k) with
        | none =>
          simp only [HeapOf, hout _ hx, resHd, hx, Option.isSome_none, Bool.false_eq_true, if_false] at hir ⊢
          exact hir
        | some x =>
          obtain ⟨_, ⟨sz, es, rfl, hc⟩, _⟩ := hkey k x hx
          have h1 : app (ws ++ ov) st (.k k) = .e ⟨0, sz, es⟩ := by rw [app_append]; simp only [app, hx]
          simp only [HeapOf, h1, resHd, hx, Option.isSome_some, if_true] at hir ⊢
          simp only [hkF, hfl, exitFl]
          rw [if_neg (by omega), show (2 * (k.2 % 64) + 1) / 2 = k.2 % 64 by omega]
          simp only [exitHeap, hc, Option.map_some]
          exact hir
    · cases i with
      | inr x => simp [HeapOf] at hi
      | inl k =>
        cases j with
        | inr x => simp [HeapOf] at hj
        | inl k' =>
          simp only [] at hE
          split at hE <;> split at hE <;> simp only [Sum.inl.injEq, Sum.inr.injEq, Prod.mk.injEq, reduceCtorEq] at hE
          · rename_i h1 h2
            obtain ⟨x1, hx1⟩ := Option.isSome_iff_exists.1 h1
            obtain ⟨x2, hx2⟩ := Option.isSome_iff_exists.1 h2
            have e1 := (hkey k x1 hx1).1
            have e2 := (hkey k' x2 hx2).1
            obtain ⟨k1, k2⟩ := k
            obtain ⟨k1', k2'⟩ := k'
            simp only [] at e1 e2 hE
            rw [e1, e2]
            congr 2
            omega
          · rw [hE]
  · intro n j sz es hmem hj
    have h1 := ovl_of_mem hmem
    obtain ⟨x, hx⟩ := Option.isSome_iff_exists.1 h1
    obtain ⟨_, ⟨sz', es', rfl, hc⟩, _⟩ := hkey _ x hx
    obtain ⟨i, a, j', sz2, es2, q1, q2, q3, q4, q5, q6⟩ := hws _ _ hmem
    have q4 := Loc.k.inj q4
    simp only [Prod.mk.injEq, true_and] at q4
    have e1 : i = n := by omega
    have e2 : j' = j := by omega
    subst e1; subst e2
    have e3 : (64 * i + j') / 64 = i := by omega
    have e4 : (64 * i + j') % 64 = j' := by omega
    simp only [e3, e4, cellOf, q1, q2, Option.some.injEq, Prod.mk.injEq] at hc
    obtain ⟨rfl, rfl⟩ := hc
    obtain ⟨e5, e6, e7⟩ : (0:Nat) = 0 ∧ sz = sz2 ∧ es = es2 := by
      have := X.e.inj q5
      injection this with a b c
      exact ⟨rfl, b, c⟩
    subst e6; subst e7
    refine ⟨by rw [app_append]; simp only [app, hx], ?_⟩
    simp only [resHd, hx, Option.isSome_some, if_true, e3, e4]
theorem ResC.vok {X' : Nat → Prop} {w0 : World} {d : Tmp} {n j : Nat} {t : T} {c : C} {ws : Ws} {st' : St} {Hd3 : K → Path → Hdr} {Hd2 : Ix → Path → Hdr} {y : Value} (h : ResC d n j t c ws) (hy : TOK ⟨w0, X', fun _ => none⟩ (Hd2 (.inr (n, j)) []) t y)
    (hst : ∀ n j sz es, (Loc.k (d, 64 * n + j), X.e ⟨0, sz, es⟩) ∈ ws → j < 64 → st' (.k (d, 64 * n + j)) = .e ⟨0, sz, es⟩ ∧ Hd3 (d, 64 * n + j) = Hd2 (.inr (n, j))) (hrow : ∀ sz es, t = .s true sz es → es.length ≤ (Hd2 (.inr (n, j)) []).cap) : COK cx st' Hd3 c y := by
  rcases h with ⟨x, rfl, rfl⟩ | ⟨sz, es, rfl, rfl, hmem, hj⟩
  · cases hy; exact .v _
  · obtain ⟨aa, rfl, hca⟩ := hy
    obtain ⟨h1, h2⟩ := hst n j sz es hmem hj
    refine .r _ _ _ _ _ _ _ ⟨by rw [h1]; simp, fun e he => by rw [h1] at he; obtain rfl := X.e.inj he; exact Nat.le_refl _⟩ (hrow sz es rfl) (fun sz' es' g hv => ?_)
    obtain ⟨e, q1, _, q3, q4⟩ := hv
    rw [h1] at q1
    obtain rfl := X.e.inj q1
    simp only [rowAt, Option.some.injEq, Prod.mk.injEq] at q3
    obtain ⟨rfl, rfl⟩ := q3
    rw [h2] at q4
    subst q4
    exact ⟨by omega, fun hc => ⟨by rw [hca hc]; simp, by omega⟩⟩
theorem AOK.vok {X' : Nat → Prop} {w0 w' : World} {d : Tmp} {n : Nat} {fin res : List A} {A : A} {v : V} {ws : Ws} {st' : St} {Hd3 : K → Path → Hdr} {Hd2 : Ix → Path → Hdr} {y : Value} (hA : res[n]? = some A) (h : ResV d n A v ws) (hy : AOK ⟨w0, X', fun _ => none⟩ Hd2 n A y) (hex : HeapOK ⟨w0, X', fun _ => none⟩ (exitHeap fin res Hd2) w')
    (hst : ∀ n j sz es, (Loc.k (d, 64 * n + j), X.e ⟨0, sz, es⟩) ∈ ws → j < 64 → st' (.k (d, 64 * n + j)) = .e ⟨0, sz, es⟩ ∧ Hd3 (d, 64 * n + j) = Hd2 (.inr (n, j))) : VOK cx st' Hd3 v y := by
  have hrow : ∀ j sz es, A.ts[j]? = some (.s true sz es) → es.length ≤ (Hd2 (.inr (n, j)) []).cap := by
    intro j sz es ht
    have hc : cellOf res (n, j) = some (sz, es) := by simp only [cellOf, hA, ht]
    exact (hex.rows (.inr (n, j)) ⟨sz, es, Hd2 (.inr (n, j))⟩ [] sz es (by simp only [exitHeap, hc, Option.map_some]) rfl).1
  cases A with
  | c t =>
    obtain ⟨c, rfl, hc⟩ := h
    exact .c _ _ (hc.vok hy hst fun sz es ht => hrow 0 sz es (by simp [A.ts, ht]))
  | a ts =>
    obtain ⟨cs, rfl, hl, hc⟩ := h
    obtain ⟨ys, rfl, hl2, hy2⟩ := hy
    refine .a _ _ (by omega) (fun j c y hcj hyj => ?_)
    have hjl := (List.getElem?_eq_some_iff.1 hcj).1
    have ht : ts[j]? = some ts[j] := List.getElem?_eq_getElem (by omega)
    exact (hc j _ c ht hcj).vok (hy2 j _ y ht hyj) hst fun sz es h2 => hrow j sz es (by simp [A.ts, ht, h2])
  | p sz es =>
    obtain ⟨h1, rfl, h3⟩ := h
    obtain ⟨ad, rfl, h4, h5, h6⟩ := hy
    exact ptr_of_row (h3.vok h6 hst fun sz' es' h7 => hrow 0 sz' es' (by simp [A.ts]; simpa using h7)) h5
  | q _ _ _ _ => exact h.elim
  | f _ _ => exact h.elim
theorem enter_run {f : Nat} (h : Enters P f) (args : Array Value) (w : World) : (callFunc f args).run P w = .ok (.enter f args) w := by
  obtain ⟨fn, h1, h2, h3⟩ := h
  have h4 : (fn.name == "runtime.NumGoroutine") = false := by simpa using h2
  have h5 : fn.body.isNone = false := by cases hb : fn.body <;> simp_all
  have h6 : ¬ fn.body = none := fun h => by rw [h] at h3; simp at h3
  simp [callFunc, h1, h2, h6]
theorem op_call (h : Rel cx n0 st Hd a w) (hd : ∀ t, o.dst = some t → t < n0) {c : Call} {fo : Operand} (ho : o.op = .call c) (hc : c.callee = .value fo) (hm : (opM P md o).wp P st Kc)
    (hK : ∀ ws Hd' a' w', Kc ws → Rel cx n0 (app ws st) Hd' a' w' → KC a' w') : o.wp P a w KC Q := by
  simp only [opM, ho, hc] at hm
  cases hds : o.dst with
  | none => simp only [hds] at hm; exact hm.elim
  | some d =>
  simp only [hds] at hm
  obtain ⟨fv, hfv, hm1⟩ := getO_ok h hm
  obtain ⟨args, hal, hargs, hm2⟩ := getOs_ok h hm1
  split at hm2
  rotate_left
  · exact hm2.elim
  rename_i fn caps
  generalize hfy : a.eval fo = fy at hfv
  cases hfv with | f _ _ ys hl hcaps =>
  unfold callM at hm2
  have hi0 : AInv cx st Hd w ([], []) (fun _ => none) := ⟨Fewer.refl _ _, h.heap.less (fun i r hir => by
      cases i with
      | inl k => exact hir
      | inr x => simp [hkF] at hir), .nil, fun x r h => by simp at h, fun x r h => by simp at h, by simp, fun pl h => by simp at h⟩
  obtain ⟨ac, fl, as, hi, _, hfree, hasl, hea, hpls, hm3⟩ := argsA_ok h.keep (ys := fun i => a.eval (c.args.getD i (.const undef))) hm2 hi0 (fun _ _ => rfl) (fun i v hv => by
    have hil := (List.getElem?_eq_some_iff.1 hv).1
    have hx : c.args.toList[i]? = some (c.args.getD i (.const undef)) := by
      have : i < c.args.size := by rw [← Array.length_toList]; omega
      simp [Array.getD_eq_getD_getElem?, this]
    exact hargs i v _ hv hx)
  obtain ⟨cas, hcl, hec, hcall, fin, res, hFn, hm4⟩ := capsA_ok h.keep hi.few hi.heap (ys := fun i => ys.getD i undef) (fun i v hv => by
    have hil := (List.getElem?_eq_some_iff.1 hv).1
    have hx : ys[i]? = some (ys.getD i undef) := by
      have : i < ys.size := by omega
      simp [Array.getD_eq_getD_getElem?, this]
    exact hcaps i v _ hv hx) hm3
  obtain ⟨hent, hfin, hres, hcalls⟩ := hFn
  simp only [Nat.zero_add] at hea
  have hsz : as.length = c.args.size := by rw [hasl, hal, Array.length_toList]
  have hplx : ∀ pl, pl ∈ ac.2 → pl.n < as.length := by
    intro pl hpl
    rcases hpls pl hpl with hp | ⟨i, a', sz, es, q1, q2, q3⟩
    · simp at hp
    · have := (List.getElem?_eq_some_iff.1 q1).1
      omega
  have hv1 : ∀ i, i < as.length → (c.args.map a.eval ++ ys)[i]? = some (a.eval (c.args.getD i (.const undef))) := by
    intro i hi'
    have h1 : i < c.args.size := by omega
    rw [Array.getElem?_append_left (by simpa using h1)]
    simp [Array.getD_eq_getD_getElem?, h1]
  have hv2 : ∀ i, i < cas.length → (c.args.map a.eval ++ ys)[as.length + i]? = some (ys.getD i undef) := by
    intro i hi'
    have h1 : i < ys.size := by omega
    rw [Array.getElem?_append_right (by simp; omega)]
    have : as.length + i - (c.args.map a.eval).size = i := by simp; omega
    rw [this]
    simp [Array.getD_eq_getD_getElem?, h1]
  obtain ⟨hent1, hent2⟩ := entry_ok hi hea (fun i a h => (hec i a h).1) hcall (fun pl hpl => hplx pl hpl) hv1 hv2
  have hamb : Amb.ok w (handX (hkF (app ac.1 st) Hd fl)) := Amb.stab cx.w0 w cx.X _ h.amb h.keep.size fun b hb hX => ⟨h.keep.block b hb hX, by
    rintro ⟨x, q, sz, es, hd, hat, hc0, rfl⟩
    rcases (hi.heap.blk (.inr x) q sz es hd hat hc0).2 with h4 | h4
    · omega
    · exact hX h4⟩
  have hrun := hcalls w _ (c.args.map a.eval ++ ys) _ (by simp; omega) hent1 hent2 hamb
  unfold Oper.wp
  have hexec : (execOp a.eval o).run P w = .ok (.enter fn (c.args.map a.eval ++ ys)) w := by
    simp only [execOp, ho, resolve, hc, hfy, Deferred.ofValue, Sem.run_bind, Sem.run_pure, Result.andThen_ok, invoke]
    simpa using enter_run hent (c.args.map a.eval ++ ys) w
  rw [hexec, Oper.upon_enter]
  refine Calls.mono hrun (fun e w' he => ?_)
  obtain ⟨v, Hd2, rfl, hex, hk2, hret, hhdr⟩ := he
  show KC (a.put o.dst v) w'
  obtain ⟨hH, hkp', hsame⟩ := exit_ok h.keep hi.heap hfin hres hex hk2
  -- what was handed over comes back
  have hbk : ∃ ov' Hd1' flc', Fewer st (app ov' st) Hd Hd1' ∧ HeapOK cx (hkF (app ov' st) Hd1' flc') w' ∧ (∀ n j, flc' (n, 2 * j + 1) = exitFl fin res Hd2 (n, 2 * j + 1)) ∧ (∀ k, st (.k k) = .none → app ac.1 st (.k k) = .none → app ov' st (.k k) = .none) ∧
      ((fun ov => resVs d 0 res fun ws vs => M.ret ((.s d, .v (tupV vs)) :: (ws ++ ov))) ov').wp P st Kc := by
    have hflx : ∀ pl, pl ∈ ac.2 → ∀ sz es, cellOf fin (pl.n, pl.j) = some (sz, es) → exitFl fin res Hd2 (pl.n, 2 * pl.j) = some ⟨sz, es, Hd2 (.inl (pl.n, pl.j))⟩ := by
      intro pl hpl sz es hce
      simp only [exitFl]
      rw [if_pos (by omega), show 2 * pl.j / 2 = pl.j by omega]
      simp only [exitHeap, hce, Option.map_some]
    have hhd : ∀ pl, pl ∈ ac.2 → (cellOf fin (pl.n, pl.j)).isSome → Hd2 (.inl (pl.n, pl.j)) [] = Hd pl.k pl.p := by
      intro pl hpl hce
      have hsome : (cellOf (as ++ cas) (pl.n, pl.j)).isSome := by
        rcases hpls pl hpl with hp | ⟨i, a', sz, es, q1, q2, q3⟩
        · simp at hp
        · have hil := (List.getElem?_eq_some_iff.1 q1).1
          have q4 : (as ++ cas)[pl.n]? = some a' := by rw [q2, Nat.zero_add, List.getElem?_append_left hil]; exact q1
          simp only [cellOf, q4, q3]
          rfl
      rw [hhdr _ hsome hce]
      obtain ⟨es, q1, _⟩ := hi.back pl hpl
      simp only [entryHd, q1, List.append_nil]
    have hrt : ∀ pls, ac.2 = pls → (∀ pl, pl ∈ pls → pl.p = []) → _ := fun pls hpls hroot => backs_root (fin := fin) (Hd2 := Hd2) (pls := ac.2) (by rw [hpls]; exact hroot) hi.nodup hH hi.few hflx (fun pl hpl => ⟨(hi.handed.root pl hpl (hroot pl (hpls ▸ hpl))).1, (hi.handed.root pl hpl (hroot pl (hpls ▸ hpl))).2.2⟩) (fun pl hpl hce => by rw [hhd pl hpl hce, hroot pl (hpls ▸ hpl)]) hm4
    cases hpl : ac.2 with
    | nil => exact hrt [] hpl (fun pl h => by simp at h)
    | cons pl pls =>
      have hcall' := hcall
      rw [hpl] at hcall'
      simp only [callable, Bool.and_eq_true, Bool.or_eq_true] at hcall'
      rcases hcall'.2 with (hall | hone) | hflat
      · exact hrt _ hpl (fun pl' h => by simpa using List.all_eq_true.1 hall pl' h)
      rotate_left
      · rw [← hpl] at hflat
        refine backs_flat (fin := fin) (Hd2 := Hd2) (pls := ac.2) (fun pl' h => ?_) hi.nodup hH hi.few hflx (R := fun k => ∃ e1, app ac.1 st (.k k) = .e e1) (fun pl' h => hi.handed.known pl' h) (fun k e he => ⟨e, he⟩) (fun pl' hin sz es hc hlen a1 b1 hp1 e0 he0 hR => ?_) hm4
        · have h8 := List.all_eq_true.1 hflat pl' h
          cases hp1 : pl'.p with
          | nil => rw [hp1] at h8; simp at h8
          | cons x q =>
            cases q with
            | nil => exact ⟨x.1, x.2, rfl⟩
            | cons _ _ => rw [hp1] at h8; simp at h8
        · obtain ⟨ver, es0, hkn, ⟨e0', s1, _, s3, _⟩, s5⟩ := hi.handed.va pl' hin
          rw [he0] at s1
          obtain rfl := X.e.inj s1
          rw [hp1] at s3
          obtain ⟨r1, hr0, hc1⟩ : ∃ r1, rowAt e0.sz e0.es [] = some (e0.sz, r1) ∧ cellAt r1 a1 b1 = some (.s true pl'.sz es0) := by
            refine ⟨e0.es, rfl, ?_⟩
            simp only [rowAt] at s3
            split at s3
            · rename_i z zs hz
              simp only [rowAt, Option.some.injEq, Prod.mk.injEq] at s3
              obtain ⟨rfl, rfl⟩ := s3
              exact hz
            · simp at s3
          simp only [rowAt, Option.some.injEq, Prod.mk.injEq, true_and] at hr0
          subst hr0
          have hrow := h.heap.row (HeapOf_some he0) (show rowAt e0.sz e0.es [] = some (e0.sz, e0.es) from rfl)
          unfold cellAt at hc1
          cases hra : e0.es[a1]? with
          | none => simp [hra] at hc1
          | some el =>
          rw [hra] at hc1
          simp only [Option.bind_some] at hc1
          have hcap : (Hd pl'.k []).cap ≠ 0 := cap_ne hrow hra
          obtain ⟨c, E, k1, k2, k3⟩ := hrow.2 hcap
          obtain ⟨y, hy, hok⟩ := (k3 _ el hra).2 _ _ hc1
          obtain ⟨e1, he1⟩ := hR
          have hsm := hsame pl'.k [] e1.sz e1.es (Hd pl'.k []) ⟨⟨e1.sz, e1.es, Hd pl'.k⟩, HeapOf_some he1, rfl, rfl⟩ hcap
          refine ⟨y, ?_, ?_⟩
          · rw [cell_same hsm]
            simp only [World.cell?, k1]
            exact hy
          · rw [hhd pl' hin (by rw [hc]; rfl), hp1]
            obtain ⟨aa, rfl, hca⟩ := hok
            exact ⟨aa, by rw [hlen, s5]; rfl, hca⟩
      · have hnil : pls = [] := by simpa using hone
        subst hnil
        by_cases hp0 : pl.p = []
        · exact hrt _ hpl (fun pl' h => by simp at h; subst h; exact hp0)
        · have hh := hi.handed
          rw [hpl] at hh hm4
          refine backs_nested h.heap hh hp0 hH hi.few (fun k p sz es g e he hr hg hc => ?_) (hflx pl (by rw [hpl]; simp)) (hhd pl (by rw [hpl]; simp)) hm4
          exact hsame k p sz es g ⟨⟨e.sz, e.es, Hd k⟩, HeapOf_some he, hr, hg⟩ hc
  obtain ⟨ov', Hd1', flc', hfew', hH', hfl', _, hm5⟩ := hbk
  obtain ⟨ws, vs, hm6, hvl, hws, hvs⟩ := resVs_ok hm5
  obtain ⟨hrel, hst'⟩ := res_rel h hkp' hfew' hH' hfl' hws
  simp only [Nat.zero_add] at hvs
  have hvok : VOK cx (app (ws ++ ov') st) (resHd ws Hd1' Hd2) (tupV vs) v := by
    have hAll : ∀ (i : Nat) (A : A) (vv : V) (y : Value), res[i]? = some A → vs[i]? = some vv → AOK ⟨w, handX (hkF (app ac.1 st) Hd fl), fun _ => none⟩ Hd2 i A y → VOK cx (app (ws ++ ov') st) (resHd ws Hd1' Hd2) vv y :=
      fun i A vv y h1 h2 h3 => AOK.vok h1 (hvs i A vv h1 h2) h3 hex hst'
    unfold RetOK at hret
    split at hret
    · rename_i A
      cases vs with
      | nil => simp at hvl
      | cons vv vs' =>
        have : vs' = [] := by simpa using hvl
        subst this
        exact hAll 0 A vv v rfl rfl hret
    · rename_i hne
      obtain ⟨yy, rfl, hyl, hy⟩ := hret
      have htup : tupV vs = .t vs := by
        unfold tupV
        split
        · rename_i vv
          cases res with
          | nil => simp at hvl
          | cons A res' =>
            have : res' = [] := by simpa using hvl.symm
            subst this
            exact absurd rfl (hne A)
        · rfl
      rw [htup]
      refine .t _ _ (by omega) (fun i vv y hv hyi => ?_)
      have hil := (List.getElem?_eq_some_iff.1 hv).1
      have hA : res[i]? = some res[i] := List.getElem?_eq_getElem (by omega)
      exact hAll i _ vv y hA hv (hy i _ y hA hyi)
  have hr := hrel.put hd hvok
  rw [hds] at hr ⊢
  refine hK _ (resHd ws Hd1' Hd2) _ _ hm6 ?_
  rw [app_cons]
  exact hr
end
end Go.Abs
namespace Go.Abs
open Go
variable [Amb]
section
variable {P : Program} {md : Nat → Nat → Bool} {cx : Cx} {n : Nat} {st : St} {Hd : K → Path → Hdr} {a : Act} {w : World} {o : Oper} {Kc : Ws → Prop} {KC : Act → World → Prop} {Q : Exit → Act → World → Prop}
theorem op_convert (h : Rel cx n st Hd a w) (hd : ∀ t, o.dst = some t → t < n) {s d : TypeId} {x : Operand} (ho : o.op = .convert s d x) (hm : (opM P md o).wp P st Kc)
    (hK : ∀ ws Hd' a' w', Kc ws → Rel cx n (app ws st) Hd' a' w' → KC a' w') : o.wp P a w KC Q := by
  simp only [opM, ho] at hm
  split at hm
  · rename_i k1 k2 h1 h2
    obtain ⟨v, hv, hm⟩ := getO_ok h hm
    generalize hev : a.eval x = y0 at hv
    split at hm
    · cases hv with | c _ _ hc => cases hc with | v => exact put_wp h hd (by simp [execOp, ho, hev, convert, run_underlying h1, run_underlying h2, Conv.intToInt]) (.c _ _ (.v _)) hm hK
    · exact hm.elim
  · simp only [convS] at hm
    split at hm
    · rename_i e h1 h2
      split at hm
      · rename_i h3
        obtain ⟨v, hv, hm⟩ := getO_ok h hm
        generalize hev : a.eval x = y0 at hv
        split at hm
        · rename_i k ver p off len
          cases hv with | c _ _ hc =>
          cases hc with | r _ _ _ _ _ a' cap hk hl hv' =>
          obtain ⟨ee, sz, es, he, hver, hr, hm2⟩ := mutual_getR hm
          split at hm2
          · rename_i m hes
            obtain ⟨⟨hsz1, hlen1, hm0, hm1⟩, hm3⟩ := hm2
            subst hsz1
            subst hlen1
            obtain ⟨h5, h4⟩ := hv' _ _ _ ⟨ee, he, hver, hr, rfl⟩
            obtain ⟨rfl, h5⟩ := h4 (by omega)
            have hrow := row_of h.heap he hr
            have hil : off < es.length := by
              have := congrArg List.length hes
              simp at this; omega
            have hget : es[off] = [.v (.int .u8 m)] := by
              have h6 : ((es.drop off).take 1)[0]? = some [.v (.int .u8 m)] := by rw [hes]; rfl
              rw [List.getElem?_take_of_lt (by omega), List.getElem?_drop] at h6
              simpa [List.getElem?_eq_getElem hil] using h6
            obtain ⟨hb1, y, hy, hok⟩ := row_cell (j := 0) hrow (List.getElem?_eq_getElem hil) (by rw [hget]; rfl)
            have hcy : w.cell? ⟨(Hd k p).b, (Hd k p).o + (off * 1 + 0), none⟩ = some (.int .u8 m) := by
              have hyv : y = .int .u8 m := by simpa [TOK] using hok
              rw [← hyv]; exact hy
            refine put_wp h hd (y := .string ⟨#[UInt8.ofNat m.toNat]⟩) ?_ (.c _ _ (.v _)) hm3 hK
            have hcv := run_convert_bytes_back (P := P) w s d e ⟨(Hd k p).b, (Hd k p).o + off * 1, none⟩ cap [UInt8.ofNat m.toNat] h1 h3 h2 (fun j hj => by
              have hj0 : j = 0 := by simpa using hj
              subst hj0
              rw [addr_add]
              simp only [Nat.mul_one, Nat.add_zero] at hcy ⊢
              rw [hcy]
              have h7 : (UInt8.ofNat m.toNat).toNat = m.toNat := by
                rw [UInt8.toNat_ofNat']; exact Nat.mod_eq_of_lt (by omega)
              simp only [List.getElem_cons_zero, h7]
              rw [Int.toNat_of_nonneg hm0])
            have hcv' : (convert s d (.slice (some ⟨(Hd k p).b, (Hd k p).o + off * 1, none⟩) 1 cap)).run P w = .ok (.string ⟨#[UInt8.ofNat m.toNat]⟩) w := hcv
            rw [Nat.mul_one] at hcv'
            simp [execOp, ho, hev, hcv']
          · exact hm2.elim
        · exact hm.elim
      · exact hm.elim
    · exact hm.elim
theorem op_index (h : Rel cx n st Hd a w) (hd : ∀ t, o.dst = some t → t < n) {t : TypeId} {x i : Operand} (ho : o.op = .index t x i) (hm : (opM P md o).wp P st Kc)
    (hK : ∀ ws Hd' a' w', Kc ws → Rel cx n (app ws st) Hd' a' w' → KC a' w') : o.wp P a w KC Q := by
  simp only [opM, ho, idxS] at hm
  split at hm
  · rename_i hs
    obtain ⟨v1, hv, hm1⟩ := getO_ok h hm
    obtain ⟨v2, hu, hm2⟩ := getO_ok h hm1
    clear hm hm1
    generalize hev : a.eval x = y0 at hv
    generalize hei : a.eval i = i0 at hu
    split at hm2
    · rename_i _ _ s kk j
      cases hv with | c _ _ hc => cases hc with | v =>
      cases hu with | c _ _ hc => cases hc with | v =>
      obtain ⟨⟨h0, h1⟩, hm3⟩ := hm2
      have hlt : j.toNat < s.size := by omega
      refine put_wp h hd (y := .int .u8 (byteAt s j.toNat)) ?_ (.c _ _ (.v _)) hm3 hK
      have hr := run_index_string (P := P) w t s kk j hs
      rw [dif_pos ⟨h0, h1⟩] at hr
      have hb : byteAt s j.toNat = ((s[j.toNat]'hlt).toNat : Int) := by
        have : s.data.toList[j.toNat]? = some (s[j.toNat]'hlt) := by
          have h9 : j.toNat < s.data.size := hlt
          rw [List.getElem?_eq_getElem (by simpa using h9)]
          simp [ByteArray.getElem_eq_getElem_data]
        simp only [byteAt, this]
      simp [execOp, ho, hev, hei, hr, hb]
    · exact hm2.elim
  · exact hm.elim
theorem op_cap (h : Rel cx n st Hd a w) (hd : ∀ t, o.dst = some t → t < n) {c : Call} (ho : o.op = .call c) (hc : c.callee = .builtin .cap) (hm : (opM P md o).wp P st Kc)
    (hK : ∀ ws Hd' a' w', Kc ws → Rel cx n (app ws st) Hd' a' w' → KC a' w') : o.wp P a w KC Q := by
  simp only [opM, ho, hc] at hm
  cases hds : o.dst with
  | none => simp only [hds] at hm; exact hm.elim
  | some d =>
    simp only [hds] at hm
    split at hm
    · rename_i x t ha ht
      cases hel : elemOf P t with
      | none => simp [hel, M.wp] at hm
      | some e =>
      simp only [hel] at hm
      obtain ⟨v, hv, hm⟩ := getO_ok h hm
      have hargs : c.args = #[x] := by rw [← Array.toArray_toList (xs := c.args), ha]
      have htys : c.argTypes = #[t] := by rw [← Array.toArray_toList (xs := c.argTypes), ht]
      generalize hev : a.eval x = y0 at hv
      split at hm
      · cases hv with | c _ _ hcc => cases hcc with | n =>
        refine put_wp h hd (y := .int .i64 0) (call_builtin ho hc (s := Builtin.cap_ c.argTypes o.type (c.args.map a.eval)) rfl ?_) (.c _ _ (.v _)) (by rw [hds]; exact hm) hK
        simp [hargs, htys, Builtin.cap_, hev, run_underlying (elem_run hel), goInt]
      · exact hm.elim
    · exact hm.elim
theorem scal_noOwn {es : List (List T)} (h : scalEs es = true) : ∀ (i : Nat) (e : List T), es[i]? = some e → ∀ (j : Nat) (t : T), e[j]? = some t → ∀ z zs, t ≠ .s true z zs := by
  intro i e he j t ht z zs hE
  subst hE
  have h1 := List.all_eq_true.1 h e (List.mem_of_getElem? he)
  have := List.all_eq_true.1 h1 _ (List.mem_of_getElem? ht)
  simp [T.isV] at this
theorem op_clear (h : Rel cx n st Hd a w) (hd : ∀ t, o.dst = some t → t < n) {c : Call} (ho : o.op = .call c) (hc : c.callee = .builtin .clear) (hm : (opM P md o).wp P st Kc)
    (hK : ∀ ws Hd' a' w', Kc ws → Rel cx n (app ws st) Hd' a' w' → KC a' w') : o.wp P a w KC Q := by
  simp only [opM, ho, hc] at hm
  cases hds : o.dst with
  | some d => simp only [hds] at hm; exact hm.elim
  | none =>
    simp only [hds] at hm
    split at hm
    · rename_i x t ha ht
      cases hel : elemOf P t with
      | none => simp [hel, M.wp] at hm
      | some el =>
      simp only [hel] at hm
      cases hz : zeroOf P el with
      | none => simp [hz, M.wp] at hm
      | some z =>
      cases hs : szOf P el with
      | none => simp [hz, hs, M.wp] at hm
      | some m =>
      simp only [hz, hs] at hm
      obtain ⟨v, hv, hm9⟩ := getO_ok h hm
      replace hm := hm9
      clear hm9
      have hargs : c.args = #[x] := by rw [← Array.toArray_toList (xs := c.args), ha]
      have htys : c.argTypes = #[t] := by rw [← Array.toArray_toList (xs := c.argTypes), ht]
      generalize hev : a.eval x = y0 at hv
      split at hm
      · rename_i k ver p off len
        cases hv with | c _ _ hcc => cases hcc with | r _ _ _ _ _ ad cap hkn hle hva =>
        simp only [getE, ovl, M.wp] at hm
        cases hk : st (.k k) with
        | none => simp [hk, M.wp] at hm
        | gone => simp [hk, M.wp] at hm
        | v _ => simp [hk, M.wp] at hm
        | e e =>
        simp only [hk, M.wp] at hm
        obtain ⟨⟨rfl, rfl, hm0, hol, hsc, hzv, hz1⟩, hm⟩ := hm
        obtain ⟨_, hcap⟩ := hva e.sz e.es (Hd k []) ⟨e, hk, .inl rfl, rfl, rfl⟩
        obtain ⟨i, zv, g1, g2, g3, g4, g5⟩ := zeroOf_ok (cx := cx) hz
        have hisz : i.size = e.sz := by simpa [szOf, g1] using hs
        by_cases hl0 : len = 0
        · subst hl0
          have hrun : (Builtin.clear_ c.argTypes o.type (c.args.map a.eval)).run P w = .ok (.tuple #[]) w := by
            cases ad <;> simp [hargs, htys, Builtin.clear_, hev, run_underlying (elem_run hel)]
          unfold Oper.wp
          rw [call_builtin ho hc (s := Builtin.clear_ c.argTypes o.type (c.args.map a.eval)) rfl hrun]
          show KC (a.put o.dst _) w
          rw [hds]
          refine hK _ Hd _ _ hm ?_
          have : app [(.k k, .e ⟨e.ver, e.sz, e.es.take off ++ (List.replicate 0 z ++ e.es.drop (off + 0))⟩)] st = st := by
            funext l
            by_cases hlk : l = .k k
            · subst hlk; rw [app_one_same, hk]; simp
            · rw [app_one_ne _ _ hlk]
          rw [this]
          exact h
        · obtain ⟨rfl, hoc⟩ := hcap (by omega)
          have hrow := row_of h.heap hk (p := []) rfl
          have hhc : (Hd k []).cap ≠ 0 := by omega
          obtain ⟨cc, E, q1, q2, q3⟩ := hrow.2 hhc
          have hvl : (Builtin.zeroCells zv.cells len).toList.length = len * e.sz := by
            simp [Builtin.zeroCells, g4, hisz]
          have hvg : ∀ j, j < len * e.sz → (Builtin.zeroCells zv.cells len).toList[j]? = some (zv.cells.getD (j % e.sz) undef) := by
            intro j hj
            have hjm : j % e.sz < zv.cells.size := by rw [g4, hisz]; exact Nat.mod_lt _ (by omega)
            simp [Builtin.zeroCells, g4, hisz, hj, Array.getD_eq_getD_getElem?, hjm]
            rw [getElem!_pos zv.cells (j % e.sz) hjm, Array.getElem?_eq_getElem hjm]; rfl
          have hzl : z.length = e.sz := by omega
          have hzc : ∀ j, j < e.sz → ∃ x, z[j]? = some (.v x) ∧ zv.cells.getD j undef = x ∧ x.oneCell' = true := by
            intro j hj
            have hzj : z[j]? = some z[j] := List.getElem?_eq_getElem (by omega)
            have hmem := List.mem_of_getElem? hzj
            have k1 := List.all_eq_true.1 hzv _ hmem
            have k2 := List.all_eq_true.1 hz1 _ hmem
            obtain ⟨_, y, k3, k4⟩ := g5 j _ hzj
            cases hzz : z[j] with
            | v x =>
              rw [hzz] at k2 k4
              have : y = x := k4
              subst this
              exact ⟨y, by rw [hzj, hzz], by rw [Array.getD_eq_getD_getElem?, k3]; rfl, k2⟩
            | d => rw [hzz] at k1; simp [T.isV] at k1
            | s _ _ _ => rw [hzz] at k1; simp [T.isV] at k1
          have hmul : (off + len) * e.sz ≤ (Hd k []).cap * e.sz := Nat.mul_le_mul_right _ (by omega)
          rw [Nat.add_mul] at hmul
          have hst := storeCells_run (P := P) (Hd k []).b ((Hd k []).o + off * e.sz) (Builtin.zeroCells zv.cells len).toList 0 w cc E q1 (by rw [hvl]; omega) (fun v hv => by
            obtain ⟨j, hj⟩ := List.mem_iff_getElem?.1 hv
            have hlt := (List.getElem?_eq_some_iff.1 hj).1
            rw [hvg j (by omega)] at hj
            obtain ⟨x, _, h2, h3⟩ := hzc (j % e.sz) (Nat.mod_lt _ (by omega))
            rw [← Option.some.inj hj, h2]; exact h3)
          rw [Nat.add_zero] at hst
          have hrun : (Builtin.clear_ c.argTypes o.type (c.args.map a.eval)).run P w = .ok (.tuple #[]) (setCellsW w (Hd k []).b ((Hd k []).o + off * e.sz) (Builtin.zeroCells zv.cells len).toList) := by
            obtain ⟨l, rfl⟩ := Nat.exists_eq_succ_of_ne_zero hl0
            simp [hargs, htys, Builtin.clear_, hev, run_underlying (elem_run hel), zeroValue, typeInfo, g1, g2, hst]
          obtain ⟨c', r1, r2, r3, r4⟩ := setCellsW_block (Builtin.zeroCells zv.cells len).toList w (Hd k []).b ((Hd k []).o + off * e.sz) cc E q1
          have hnl : (e.es.take off ++ (List.replicate len z ++ e.es.drop (off + len))).length = e.es.length := by simp; omega
          have hnsc : scalEs (e.es.take off ++ (List.replicate len z ++ e.es.drop (off + len))) = true := by
            unfold scalEs at hsc ⊢
            rw [List.all_eq_true] at hsc ⊢
            intro x hx
            rcases List.mem_append.1 hx with hx | hx
            · exact hsc x (List.mem_of_mem_take hx)
            · rcases List.mem_append.1 hx with hx | hx
              · rw [(List.mem_replicate.1 hx).2]; exact hzv
              · exact hsc x (List.mem_of_mem_drop hx)
          have hX := (h.heap.blk (.inl k) [] e.sz e.es (Hd k []) ⟨⟨e.sz, e.es, Hd k⟩, by simp [HeapOf, hk], rfl, rfl⟩ hhc).2
          obtain ⟨f1, f2, f3, f4⟩ := setCellsW_frame (Builtin.zeroCells zv.cells len).toList w (Hd k []).b ((Hd k []).o + off * e.sz)
          unfold Oper.wp
          rw [call_builtinW ho hc (s := Builtin.clear_ c.argTypes o.type (c.args.map a.eval)) rfl hrun]
          show KC (a.put o.dst _) _
          rw [hds]
          refine hK _ Hd _ _ hm ?_
          generalize hes : e.es.take off ++ (List.replicate len z ++ e.es.drop (off + len)) = es' at hm hnl hnsc ⊢
          refine h.step (st' := _) (fun t => ?_) ?_ ?_ ?_ (h.keep.setCells hX)
          · rw [app_one_ne _ _ (by simp)]
          · intro k' ver' hkn'
            by_cases hkk : k' = k
            · subst hkk
              refine ⟨by rw [app_one_same]; simp, fun e' he' => ?_⟩
              rw [app_one_same] at he'
              obtain rfl := X.e.inj he'
              exact hkn'.2 e hk
            · have h2 : (Loc.k k') ≠ .k k := fun e => hkk (Loc.k.inj e)
              simp only [known, app_one_ne _ _ h2]; exact hkn'
          · intro k' ver' p' sz' es1 g hkn' hval
            obtain ⟨e', v1, v2, v3, v4⟩ := hval
            by_cases hkk : k' = k
            · subst hkk
              rw [app_one_same] at v1
              obtain rfl := X.e.inj v1
              cases p' with
              | nil =>
                simp only [rowAt, Option.some.injEq, Prod.mk.injEq] at v3
                obtain ⟨rfl, rfl⟩ := v3
                exact ⟨e.es, ⟨e, hk, .inl rfl, rfl, v4⟩, hnl.symm⟩
              | cons x q => rw [noOwn_rowAt (scal_noOwn hnsc)] at v3; simp at v3
            · have h2 : (Loc.k k') ≠ .k k := fun e => hkk (Loc.k.inj e)
              rw [app_one_ne _ _ h2] at v1
              exact ⟨es1, ⟨e', v1, v2, v3, v4⟩, rfl⟩
          · have hik : HeapOf st Hd (.inl k) = some ⟨e.sz, e.es, Hd k⟩ := by simp [HeapOf, hk]
            refine h.heap.remake (i := .inl k) (r' := ⟨e.sz, es', Hd k⟩) (by simp only [HeapOf, app_one_same]) (fun j r hj hr => ?_) (by rw [f4]; exact Nat.le_refl _) h.keep.size ?_ ?_ (fun p => (.inl k, p)) (fun p q h => (Prod.mk.inj h).2) ?_
            · cases j with
              | inr x => simp [HeapOf] at hr
              | inl k' =>
                have h2 : (Loc.k k') ≠ .k k := fun e => hj (by rw [Loc.k.inj e])
                simpa only [HeapOf, app_one_ne _ _ h2] using hr
            · rintro j q sz1 es1 h1 hj ⟨r, hr, hq, hh⟩ hc1
              have hr2 : HeapOf st Hd j = some r := by
                cases j with
                | inr x => simp [HeapOf] at hr
                | inl k' =>
                  have h2 : (Loc.k k') ≠ .k k := fun e => hj (by rw [Loc.k.inj e])
                  simpa only [HeapOf, app_one_ne _ _ h2] using hr
              refine setCellsW_heap _ _ _ _ _ fun hE => ?_
              have := (h.heap.inj _ _ _ _ _ _ _ _ _ _ ⟨r, hr2, hq, hh⟩ ⟨_, hik, rfl, rfl⟩ hc1 hhc hE).1
              exact hj this
            · intro p sz1 es1 hp
              cases p with
              | cons x q => rw [noOwn_rowAt (scal_noOwn hnsc)] at hp; simp at hp
              | nil =>
                simp only [rowAt, Option.some.injEq, Prod.mk.injEq] at hp
                obtain ⟨rfl, rfl⟩ := hp
                refine ⟨by rw [hnl]; exact hrow.1, fun _ => ⟨c', E, r1, by rw [r2]; exact q2, fun x e1 he1 => ?_⟩⟩
                show e1.length = e.sz ∧ ∀ (j : Nat) (t : T), e1[j]? = some t → ∃ y, c'[(Hd k []).o + (x * e.sz + j)]? = some y ∧ TOK cx (Hd k ([] ++ [(x, j)])) t y
                subst hes
                have hle1 : (e.es.take off).length = off := by simp; omega
                by_cases hx1 : x < off
                · rw [List.getElem?_append_left (by omega), List.getElem?_take_of_lt hx1] at he1
                  obtain ⟨k1, k2⟩ := q3 x e1 he1
                  refine ⟨k1, fun j t ht => ?_⟩
                  obtain ⟨y, hy, hok⟩ := k2 j t ht
                  have hj := (List.getElem?_eq_some_iff.1 ht).1
                  have : (x + 1) * e.sz ≤ off * e.sz := Nat.mul_le_mul_right _ hx1
                  rw [Nat.add_mul, Nat.one_mul] at this
                  exact ⟨y, by rw [r3 _ (.inl (by omega))]; exact hy, hok⟩
                · by_cases hx2 : x < off + len
                  · rw [List.getElem?_append_right (by omega), List.getElem?_append_left (by simp; omega), List.getElem?_replicate, if_pos (by omega)] at he1
                    obtain rfl := Option.some.inj he1
                    refine ⟨hzl, fun j t ht => ?_⟩
                    have hj := (List.getElem?_eq_some_iff.1 ht).1
                    obtain ⟨y, h1, h2, h3⟩ := hzc j (by omega)
                    rw [ht] at h1
                    obtain rfl := Option.some.inj h1
                    have hm1 : (x - off + 1) * e.sz ≤ len * e.sz := Nat.mul_le_mul_right _ (by omega)
                    rw [Nat.add_mul, Nat.one_mul] at hm1
                    have hm2 : x * e.sz = off * e.sz + (x - off) * e.sz := by rw [← Nat.add_mul]; congr 1; omega
                    refine ⟨y, ?_, rfl⟩
                    rw [show (Hd k []).o + (x * e.sz + j) = (Hd k []).o + off * e.sz + ((x - off) * e.sz + j) by omega, r4 _ (by omega) (by omega), hvg _ (by omega)]
                    rw [Nat.mul_comm, Nat.mul_add_mod, Nat.mod_eq_of_lt (by omega), h2]
                  · rw [List.getElem?_append_right (by omega), List.getElem?_append_right (by simp; omega), List.getElem?_drop] at he1
                    simp only [List.length_replicate, hle1] at he1
                    rw [show off + len + (x - off - len) = x by omega] at he1
                    obtain ⟨k1, k2⟩ := q3 x e1 he1
                    refine ⟨k1, fun j t ht => ?_⟩
                    obtain ⟨y, hy, hok⟩ := k2 j t ht
                    have : (off + len) * e.sz ≤ x * e.sz := Nat.mul_le_mul_right _ (by omega)
                    rw [Nat.add_mul] at this
                    exact ⟨y, by rw [r3 _ (.inr (by omega))]; exact hy, hok⟩
            · intro p sz1 es1 hp hc1
              cases p with
              | cons x q => rw [noOwn_rowAt (scal_noOwn hnsc)] at hp; simp at hp
              | nil => exact .inr ⟨e.sz, e.es, Hd k [], ⟨_, hik, rfl, rfl⟩, hhc, rfl, .inl rfl⟩
      · exact hm.elim
    · exact hm.elim
end
end Go.Abs
namespace Go.Abs
open Go
variable [Amb]
section
variable {P : Program} {md : Nat → Nat → Bool} {cx : Cx} {n : Nat} {st : St} {Hd : K → Path → Hdr} {a : Act} {w : World} {o : Oper} {Kc : Ws → Prop} {KC : Act → World → Prop} {Q : Exit → Act → World → Prop}
theorem opM_ok (h : Rel cx n st Hd a w) (hd : ∀ t, o.dst = some t → t < n) (hm : (opM P md o).wp P st Kc)
    (hK : ∀ ws Hd' a' w', Kc ws → Rel cx n (app ws st) Hd' a' w' → KC a' w') : o.wp P a w KC Q := by
  cases ho : o.op with
  | move x => exact op_move h hd (.inl ho) hm hK
  | assign x => exact op_move h hd (.inr ho) hm hK
  | pick c x y => exact op_pick h hd ho hm hK
  | alloc t => exact op_alloc h hd ho hm hK
  | box t x => exact op_box h hd ho hm hK
  | build t parts => exact op_build h hd ho hm hK
  | buildSlice t len parts => exact op_buildSlice h hd ho hm hK
  | makeSlice t l c => exact op_makeSlice h hd ho hm hK
  | load t x => exact op_load h hd ho hm hK
  | store t x y => exact op_store h hd ho hm hK
  | nilCheck x => exact op_nilCheck h hd ho hm hK
  | binOp op t x y t' => exact op_binOp h hd ho hm hK
  | unOp op t x => exact op_unOp h hd ho hm hK
  | slice t x lo hi mx => exact op_slice h hd ho hm hK
  | fieldAddr s x f => exact op_fieldAddr h hd ho hm hK
  | field s x f => exact op_field h hd ho hm hK
  | indexAddr t x i => exact op_indexAddr h hd ho hm hK
  | extract x i => exact op_extract h hd ho hm hK
  | index t x i => exact op_index h hd ho hm hK
  | convert s d x => exact op_convert h hd ho hm hK
  | makeFunc fn first caps =>
    cases fn with
    | func f => exact op_makeFunc h hd ho hm hK
    | _ => simp only [opM, ho] at hm; exact hm.elim
  | call c =>
    cases hc : c.callee with
    | value f => exact op_call h hd ho hc hm hK
    | invoke r s => simp only [opM, ho, hc] at hm; exact hm.elim
    | builtin b =>
      cases b with
      | len => exact op_len h hd ho hc hm hK
      | append => exact op_append h hd ho hc hm hK
      | min => exact op_min h hd ho hc hm hK
      | max => exact op_max h hd ho hc hm hK
      | clear => exact op_clear h hd ho hc hm hK
      | cap => exact op_cap h hd ho hc hm hK
      | _ => simp only [opM, ho, hc] at hm; exact hm.elim
  | _ => simp only [opM, ho] at hm; exact hm.elim
def Step (P : Program) (ops : Array Oper) (o : Oper) (a : Act) (w : World) (KC : Act → World → Prop) (Q : Exit → Act → World → Prop) : Prop :=
  if Region.wanted o (yielded ops a.tmps) then o.wp P a w KC Q ∨ (o.asks P a w ∧ LetsOut Q) else KC (a.put o.dst undef) w
theorem operM_ok {ops : Array Oper} (h : Rel cx n st Hd a w) (hd : ∀ t, o.dst = some t → t < n) (hm : (operM P md ops.toList o).wp P st Kc)
    (hK : ∀ ws Hd' a' w', Kc ws → Rel cx n (app ws st) Hd' a' w' → KC a' w') : Step P ops o a w KC Q := by
  unfold Step
  unfold operM at hm
  cases hg : o.guard with
  | none =>
    simp only [hg] at hm
    simp only [Region.wanted, hg, if_true]
    exact .inl (opM_ok h hd hm hK)
  | some jw =>
    obtain ⟨j, want⟩ := jw
    simp only [hg] at hm
    cases hdst : (ops.toList[j]?).bind (·.dst) with
    | none => simp only [hdst] at hm; exact hm.elim
    | some t =>
      simp only [hdst, M.wp] at hm
      have hdst' : (ops[j]?).bind (·.dst) = some t := by simpa using hdst
      -- what the guard's value is
      have hskip : (match o.dst with | some d => M.ret [(.s d, .v .u)] | none => M.ret []).wp P st Kc → KC (a.put o.dst undef) w := by
        intro hw
        have hr := h.put hd (v := .u) .u
        refine hK _ Hd _ _ ?_ hr
        cases hds : o.dst with
        | none => rw [hds] at hw; exact hw
        | some d => rw [hds] at hw; exact hw
      cases hs : st (.s t) with
      | e e => rw [hs] at hm; exact hm.elim
      | gone => rw [hs] at hm; exact hm.elim
      | none => rw [hs] at hm; exact hm.elim
      | v v =>
        rw [hs] at hm
        obtain ⟨htn, hv⟩ := h.slots t v hs
        have htmp : a.tmps[t]? = some (a.tmps.getD t undef) := by
          have : t < a.tmps.size := by rw [h.size]; exact htn
          simp [Array.getD_eq_getD_getElem?, this]
        have hy : yielded ops a.tmps j = (match a.tmps.getD t undef with | .bool b => some b | _ => none) := by
          simp only [yielded, hdst', Option.bind_some, htmp]
          cases a.tmps.getD t undef <;> rfl
        split at hm
        · rename_i b hb
          have hvb : v = .c (.v (.bool b)) := by simpa using hb
          subst hvb
          cases hv with | c _ _ hc => 
          generalize hyy : a.tmps.getD t undef = yy at hc hy
          cases hc
          simp only [] at hy
          simp only [Region.wanted, hg, hy]
          by_cases hbw : b = want
          · subst hbw
            simp only [beq_self_eq_true, if_true] at hm ⊢
            exact .inl (opM_ok h hd hm hK)
          · rw [if_neg hbw] at hm
            have : (some b == some want) = false := by simpa using hbw
            simp only [this, Bool.false_eq_true, if_false]
            exact hskip hm
        · rename_i hu
          have hvb : v = .u := by simpa using hu
          subst hvb
          generalize hyy : a.tmps.getD t undef = yy at hv hy
          cases hv
          have hyn : yielded ops a.tmps j = none := by rw [hy]; rfl
          simp only [Region.wanted, hg, hyn]
          have : (none == some want) = false := rfl
          simp only [this, Bool.false_eq_true, if_false]
          exact hskip hm
        · exact hm.elim
def opsM (P : Program) (md : Nat → Nat → Bool) (ops : Array Oper) : List Nat → St → (St → Prop) → Prop
  | [], st, K => K st
  | i :: rest, st, K => match ops[i]? with
    | none => opsM P md ops rest st K
    | some o => (operM P md ops.toList o).wp P st fun ws => opsM P md ops rest (app ws st) K
def DstOK (n : Nat) (ops : Array Oper) : Prop := ∀ (i : Nat) (o : Oper) (t : Tmp), ops[i]? = some o → o.dst = some t → t < n
theorem opsM_ok {ops : Array Oper} (hn : DstOK n ops) {Ko : St → Prop} (hQ : ∀ st' Hd' a' w', Ko st' → Rel cx n st' Hd' a' w' → Q .normal a' w') : ∀ (l : List Nat) {st : St} {Hd : K → Path → Hdr} {a : Act} {w : World}, Rel cx n st Hd a w → opsM P md ops l st Ko → wpOps P ops Q l a w
  | [], st, Hd, a, w, h, hm => hQ st Hd a w hm h
  | i :: rest, st, Hd, a, w, h, hm => by
    simp only [opsM] at hm
    simp only [wpOps]
    cases ho : ops[i]? with
    | none => simp only [ho] at hm; exact opsM_ok hn hQ rest h hm
    | some o =>
      simp only [ho] at hm ⊢
      exact operM_ok (KC := wpOps P ops Q rest) h (fun t ht => hn i o t ho ht) hm (fun ws Hd' a' w' hk hr => opsM_ok hn hQ rest hr hk)
def AW (P : Program) (n np : Nat) (c : Code) (st : St) (Q : Exit → St → Prop) : Prop :=
  ∀ (cx : Cx) (Hd : K → Path → Hdr) (a : Act) (w : World), (∀ k h, cx.H0 k = some h → k.1 < np) → Rel cx n st Hd a w → c.wp P (fun e a' w' => ∃ st' Hd', Q e st' ∧ Rel cx n st' Hd' a' w') a w
def AExit (K : St → Prop) (Q : Exit → St → Prop) : Exit → St → Prop
  | .normal, st => K st
  | e, st => Q e st
def ABlock (id : Nat) (Q : Exit → St → Prop) : Exit → St → Prop
  | .exit id', st => if id' = id then Q .normal st else Q (.exit id') st
  | e, st => Q e st
variable {np : Nat} {QA : Exit → St → Prop}
theorem AW.mono {c : Code} {Q' : Exit → St → Prop} (h : AW P n np c st QA) (hq : ∀ e st, QA e st → Q' e st) : AW P n np c st Q' :=
  fun cx Hd a w h0 hr => wp_mono (h cx Hd a w h0 hr) fun e a w ⟨st', Hd', h1, h2⟩ => ⟨st', Hd', hq _ _ h1, h2⟩
theorem AW.skip (h : QA .normal st) : AW P n np .skip st QA := fun cx Hd a w h0 hr => wp_skip ⟨st, Hd, h, hr⟩
theorem AW.exit {id : Nat} (h : QA (.exit id) st) : AW P n np (.exit id) st QA := fun cx Hd a w h0 hr => wp_exit ⟨st, Hd, h, hr⟩
theorem AW.ret (h : QA .ret st) : AW P n np .ret st QA := fun cx Hd a w h0 hr => wp_ret ⟨st, Hd, h, hr⟩
theorem AW.seq {x y : Code} (h : AW P n np x st (AExit (fun st' => AW P n np y st' QA) QA)) : AW P n np (.seq x y) st QA := by
  intro cx Hd a w h0 hr
  refine wp_seq (wp_mono (h cx Hd a w h0 hr) ?_)
  rintro e a' w' ⟨st', Hd', h1, h2⟩
  cases e with
  | normal => exact h1 cx Hd' a' w' h0 h2
  | _ => exact ⟨st', Hd', h1, h2⟩
def condV (st : St) : Operand → Option Bool
  | .tmp t => match st (.s t) with
    | .v (.c (.v (.bool b))) => some b
    | _ => none
  | .const (.bool b) => some b
  | _ => none
theorem AW.cond {c : Operand} {x y : Code} {t : Bool} (hc : condV st c = some t) (h : AW P n np (if t then x else y) st QA) : AW P n np (.cond c x y) st QA := by
  intro cx Hd a w h0 hr
  refine wp_cond (t := t) ?_ (h cx Hd a w h0 hr)
  unfold condV at hc
  split at hc
  · rename_i tt
    split at hc
    · rename_i b hs
      obtain rfl := Option.some.inj hc
      obtain ⟨h1, h2⟩ := hr.slots tt _ hs
      have h3 : tt < a.tmps.size := by rw [hr.size]; exact h1
      cases h2 with | c _ _ hc => 
      generalize hyy : a.tmps.getD tt undef = yy at hc
      cases hc
      simpa [Act.eval, Array.getD_eq_getD_getElem?] using hyy
    · simp at hc
  · obtain rfl := Option.some.inj hc; rfl
  · simp at hc
theorem AW.block {id : Nat} {c : Code} (h : AW P n np c st (ABlock id QA)) : AW P n np (.block id c) st QA := by
  intro cx Hd a w h0 hr
  refine wp_block (wp_mono (h cx Hd a w h0 hr) ?_)
  rintro e a' w' ⟨st', Hd', h1, h2⟩
  cases e with
  | exit id' =>
    simp only [Exit.inBlock, ABlock] at h1 ⊢
    split
    · rename_i hid; rw [if_pos hid] at h1; exact ⟨st', Hd', h1, h2⟩
    · rename_i hid; rw [if_neg hid] at h1; exact ⟨st', Hd', h1, h2⟩
  | _ => exact ⟨st', Hd', h1, h2⟩
theorem AW.loop {c : Code} (I : Nat → St → Prop) (m0 : Nat) (h0 : I m0 st) (round : ∀ m st, I m st → AW P n np c st (AExit (fun st' => ∃ m', m' < m ∧ I m' st') QA)) : AW P n np (.loop c) st QA := by
  intro cx Hd a w hH hr
  refine wp_loop_ghost (fun m a w => ∃ st Hd, I m st ∧ Rel cx n st Hd a w) m0 ⟨st, Hd, h0, hr⟩ ?_
  rintro m a w ⟨st', Hd', h1, h2⟩
  refine wp_mono (round m st' h1 cx Hd' a w hH h2) ?_
  rintro e a' w' ⟨st2, Hd2, h3, h4⟩
  cases e with
  | normal => obtain ⟨m', h5, h6⟩ := h3; exact ⟨m', h5, st2, Hd2, h6, h4⟩
  | _ => exact ⟨st2, Hd2, h3, h4⟩
theorem AW.region {id : Nat} {ops : Array Oper} (hn : DstOK n ops) (h : opsM P md ops (List.range ops.size) st (QA .normal)) : AW P n np (.region id ops false) st QA := by
  intro cx Hd a w h0 hr
  exact wp_region (opsM_ok hn (fun st' Hd' a' w' hk hr' => ⟨st', Hd', hk, hr'⟩) _ hr h)
end
end Go.Abs
namespace Go.Abs
open Go
variable [Amb]
def M.wpR (P : Program) : M → St → List Loc → (List Loc → Ws → Prop) → Prop
  | .ret ws, _, rs, K => K rs ws
  | .get l f, st, rs, K => (f (st l)).wpR P st (l :: rs) K
  | .req p m, st, rs, K => p ∧ m.wpR P st rs K
  | .any _, _, _, _ => False
  | .call f as k, st, rs, K => ∃ fin res, Fn P f as fin res ∧ (k fin res).wpR P st rs K
  | .bad, _, _, _ => False
theorem M.replay {P : Program} {st : St} : ∀ (m : M) (rs : List Loc) (K : List Loc → Ws → Prop), m.wpR P st rs K →
    ∃ rs' ws, K rs' ws ∧ (∀ l, l ∈ rs → l ∈ rs') ∧ ∀ st', (∀ l, l ∈ rs' → st' l = st l) → ∀ Kc : Ws → Prop, Kc ws → m.wp P st' Kc
  | .ret ws, rs, K, h => ⟨rs, ws, h, fun l h => h, fun st' _ Kc h => h⟩
  | .get l f, rs, K, h => by
    obtain ⟨rs', ws, h1, h2, h3⟩ := M.replay (f (st l)) (l :: rs) K h
    refine ⟨rs', ws, h1, fun x hx => h2 x (List.mem_cons_of_mem _ hx), fun st' hst Kc hk => ?_⟩
    simp only [M.wp]
    rw [hst l (h2 l (List.mem_cons_self ..))]
    exact h3 st' hst Kc hk
  | .req p m, rs, K, h => by
    obtain ⟨rs', ws, h1, h2, h3⟩ := M.replay m rs K h.2
    exact ⟨rs', ws, h1, h2, fun st' hst Kc hk => ⟨h.1, h3 st' hst Kc hk⟩⟩
  | .any f, rs, K, h => h.elim
  | .call f as k, rs, K, h => by
    obtain ⟨fin, res, hf, h⟩ := h
    obtain ⟨rs', ws, h1, h2, h3⟩ := M.replay (k fin res) rs K h
    exact ⟨rs', ws, h1, h2, fun st' hst Kc hk => ⟨fin, res, hf, h3 st' hst Kc hk⟩⟩
  | .bad, rs, K, h => h.elim
structure Foot where
  r : List Loc
  w : List Loc
def preds (ops : List Oper) : List (List Nat) := ops.foldl (fun acc o => acc ++ [(o.after.toList.filter (Region.binds .any)).foldl (fun s e => e.on :: (acc.getD e.on []) ++ s) []]) []
def disjoint (a b : List Loc) : Bool := a.all fun x => !b.contains x
def apart (f g : Foot) : Bool := disjoint f.w g.w && disjoint f.r g.w && disjoint f.w g.r
def rowOK (ops : List Oper) (fs : List Foot) (ps : List (List Nat)) (i : Nat) : Bool := match fs[i]?, ops[i]?, ps[i]? with
  | some f, some o, some p => o.after.toList.all (fun e => !Region.binds .any e || decide (e.on < i)) && (List.range i).all fun j => p.contains j || (match fs[j]? with
      | some g => apart f g
      | none => false)
  | _, _, _ => false
def indep (ops : List Oper) (fs : List Foot) : Bool := (List.range ops.length).all (rowOK ops fs (preds ops))
theorem disjoint_iff {a b : List Loc} (h : disjoint a b = true) {l : Loc} (ha : l ∈ a) : l ∉ b := by
  have := List.all_eq_true.1 h l ha
  simpa using this
def stOf (wss : Nat → Ws) (b : Nat → Bool) : Nat → St → St
  | 0, st => st
  | i + 1, st => if b i then app (wss i) (stOf wss b i st) else stOf wss b i st
theorem ovl_none {ws : Ws} {l : Loc} (h : l ∉ ws.map (·.1)) : ovl ws l = none := by
  cases hx : ovl ws l with
  | none => rfl
  | some x => exact absurd (List.mem_map.2 ⟨(l, x), ovl_mem hx, rfl⟩) h
theorem app_out {ws : Ws} {st : St} {l : Loc} (h : l ∉ ws.map (·.1)) : app ws st l = st l := by
  simp only [app, ovl_none h]
theorem app_in {ws : Ws} {st st' : St} {l : Loc} (h : l ∈ ws.map (·.1)) : app ws st l = app ws st' l := by
  obtain ⟨⟨l', x⟩, hx, rfl⟩ := List.mem_map.1 h
  obtain ⟨y, hy⟩ := Option.isSome_iff_exists.1 (ovl_of_mem hx)
  simp only [app, hy]
theorem stOf_agree {wss : Nat → Ws} {b b' : Nat → Bool} {st : St} {l : Loc} : ∀ (m : Nat), (∀ j, j < m → b j ≠ b' j → l ∉ (wss j).map (·.1)) → stOf wss b m st l = stOf wss b' m st l
  | 0, _ => rfl
  | m + 1, h => by
    have ih := stOf_agree (st := st) m (fun j hj => h j (by omega))
    by_cases hb : b m = b' m
    · simp only [stOf, ← hb]
      split
      · simp only [app, ih]
      · exact ih
    · have hl := h m (by omega) hb
      simp only [stOf]
      split <;> split <;> simp only [app_out hl, ih]
theorem stOf_insert {wss : Nat → Ws} {b : Nat → Bool} {st : St} {i : Nat} (hb : b i = false) : ∀ (m : Nat), i < m → (∀ j, i < j → j < m → b j = true → ∀ l, l ∈ (wss i).map (·.1) → l ∉ (wss j).map (·.1)) →
    app (wss i) (stOf wss b m st) = stOf wss (fun j => if j = i then true else b j) m st
  | 0, h, _ => by omega
  | m + 1, h, hd => by
    by_cases hm : i = m
    · subst hm
      simp only [stOf, hb, if_true, Bool.false_eq_true, if_false]
      congr 1
      funext l
      exact stOf_agree i (fun j hj hne => absurd (by simp [show j ≠ i by omega]) hne)
    · have ih := stOf_insert (st := st) hb m (by omega) (fun j h1 h2 => hd j h1 (by omega))
      simp only [stOf, if_neg (fun e : m = i => hm e.symm)]
      split
      · rename_i hbm
        rw [← ih]
        funext l
        by_cases h1 : l ∈ (wss i).map (·.1)
        · have h2 := hd m (by omega) (by omega) hbm l h1
          rw [app_out h2]
          exact app_in h1
        · rw [app_out h1]
          by_cases h2 : l ∈ (wss m).map (·.1)
          · exact app_in h2
          · rw [app_out h2, app_out h2, app_out h1]
      · exact ih
theorem stOf_all {wss : Nat → Ws} {b : Nat → Bool} {st : St} : ∀ (m : Nat), (∀ j, j < m → b j = true) → stOf wss b m st = stOf wss (fun _ => true) m st
  | 0, _ => rfl
  | m + 1, h => by simp only [stOf, h m (by omega), if_true]; rw [stOf_all m (fun j hj => h j (by omega))]
theorem stOf_none {wss : Nat → Ws} {st : St} : ∀ (m : Nat), stOf wss (fun _ => false) m st = st
  | 0 => rfl
  | m + 1 => by simp only [stOf, Bool.false_eq_true, if_false]; exact stOf_none m
end Go.Abs
namespace Go.Abs
open Go
variable [Amb]
def Closed (ops : Array Oper) (b : Nat → Bool) : Prop := ∀ (i : Nat) (o : Oper), ops[i]? = some o → b i = true → ∀ e ∈ o.after.toList, Region.binds .any e = true → b e.on = true
theorem preds_fold {ops : List Oper} {b : Nat → Bool} (hb : ∀ (i : Nat) (o : Oper), ops[i]? = some o → b i = true → ∀ e ∈ o.after.toList, Region.binds .any e = true → b e.on = true) :
    ∀ (rest pre : List Oper) (acc : List (List Nat)), ops = pre ++ rest → acc.length = pre.length → (∀ (i : Nat) (p : List Nat) (o : Oper), acc[i]? = some p → ops[i]? = some o → (∀ e ∈ o.after.toList, Region.binds .any e = true → b e.on = true) → ∀ j ∈ p, b j = true) →
      ∀ (i : Nat) (p : List Nat) (o : Oper), (rest.foldl (fun acc o => acc ++ [(o.after.toList.filter (Region.binds .any)).foldl (fun s e => e.on :: (acc.getD e.on []) ++ s) []]) acc)[i]? = some p → ops[i]? = some o → (∀ e ∈ o.after.toList, Region.binds .any e = true → b e.on = true) → ∀ j ∈ p, b j = true
  | [], pre, acc, hE, hl, hacc => hacc
  | o :: rest, pre, acc, hE, hl, hacc => by
    refine preds_fold hb rest (pre ++ [o]) _ (by simp [hE]) (by simp [hl]) ?_
    intro i p o' hp ho he j hj
    by_cases hi : i < acc.length
    · rw [List.getElem?_append_left hi] at hp
      exact hacc i p o' hp ho he j hj
    · rw [List.getElem?_append_right (by omega)] at hp
      have hi0 : i - acc.length = 0 := by
        have := (List.getElem?_eq_some_iff.1 hp).1
        simp at this; omega
      rw [hi0] at hp
      simp only [List.getElem?_cons_zero, Option.some.injEq] at hp
      subst hp
      have hoo : o' = o := by
        rw [hE, List.getElem?_append_right (by omega), show i - pre.length = 0 by omega] at ho
        simpa using ho.symm
      subst hoo
      have hall : ∀ (es : List Edge) (s : List Nat), (∀ e ∈ es, b e.on = true) → (∀ j ∈ s, b j = true) → ∀ j ∈ es.foldl (fun s e => e.on :: (acc.getD e.on []) ++ s) s, b j = true := by
        intro es
        induction es with
        | nil => intro s _ hs; exact hs
        | cons e es ih =>
          intro s hes hs
          refine ih _ (fun e' he' => hes e' (List.mem_cons_of_mem _ he')) (fun j hj => ?_)
          have hbe := hes e (List.mem_cons_self ..)
          simp only [List.cons_append, List.mem_cons, List.mem_append] at hj
          rcases hj with rfl | hj | hj
          · exact hbe
          · cases hq : acc[e.on]? with
            | none => simp [List.getD_eq_getElem?_getD, hq] at hj
            | some p' =>
              simp only [List.getD_eq_getElem?_getD, hq, Option.getD_some] at hj
              have hlt := (List.getElem?_eq_some_iff.1 hq).1
              have hol : e.on < ops.length := by rw [hE]; simp; omega
              have hoe : ops[e.on]? = some ops[e.on] := List.getElem?_eq_getElem hol
              exact hacc e.on p' _ hq hoe (hb _ _ hoe hbe) j hj
          · exact hs j hj
      exact hall _ [] (fun e hee => he e (List.mem_filter.1 hee).1 (List.mem_filter.1 hee).2) (fun j hj => by simp at hj) j hj
theorem preds_closed {ops : Array Oper} {b : Nat → Bool} (hb : Closed ops b) {i : Nat} {p : List Nat} {o : Oper} (hp : (preds ops.toList)[i]? = some p) (ho : ops[i]? = some o) (he : ∀ e ∈ o.after.toList, Region.binds .any e = true → b e.on = true) : ∀ j ∈ p, b j = true :=
  preds_fold (ops := ops.toList) (fun i o h => hb i o (by simpa using h)) ops.toList [] [] rfl rfl (fun i p o h => by simp at h) i p o hp (by simpa using ho) he
theorem stOf_congr {wss : Nat → Ws} {b b' : Nat → Bool} {st : St} (m : Nat) (h : ∀ j, j < m → b j = b' j) : stOf wss b m st = stOf wss b' m st := by
  funext l
  exact stOf_agree m (fun j hj hne => absurd (h j hj) hne)
theorem stOf_lt {wss : Nat → Ws} {st : St} {i : Nat} : ∀ (m : Nat), i ≤ m → stOf wss (fun j => decide (j < i)) m st = stOf wss (fun _ => true) i st
  | 0, h => by obtain rfl : i = 0 := by omega
               rfl
  | m + 1, h => by
    by_cases hi : i = m + 1
    · subst hi
      exact stOf_all (m + 1) (fun j hj => by simpa using hj)
    · simp only [stOf]
      rw [if_neg (by simp; omega)]
      exact stOf_lt m (by omega)
theorem countP_lt {p q : Nat → Bool} {i : Nat} (h : ∀ j, q j = true → p j = true) (hp : p i = true) (hq : q i = false) : ∀ (l : List Nat), i ∈ l → l.countP q < l.countP p
  | [], hi => by simp at hi
  | x :: l, hi => by
    have hle : l.countP q ≤ l.countP p := List.countP_mono_left (fun j _ => h j)
    rw [List.countP_cons, List.countP_cons]
    rcases List.mem_cons.1 hi with rfl | hi
    · simp [hp, hq]; omega
    · have := countP_lt h hp hq l hi
      by_cases hqx : q x = true
      · simp [hqx, h x hqx]; exact this
      · simp [hqx]; omega
theorem Rel.drew {cx : Cx} {n : Nat} {st : St} {Hd : K → Path → Hdr} {a : Act} {w : World} (h : Rel cx n st Hd a w) : Rel cx n st Hd a w.drew :=
  ⟨h.defers, h.size, h.slots, ⟨h.heap.rows, h.heap.inj, h.heap.blk⟩, h.keep.drew, h.hdr, h.amb⟩
section
variable {P : Program} {md : Nat → Nat → Bool} {cx : Cx} {n np : Nat} {st : St} {QA : Exit → St → Prop} {ops : Array Oper} {Q : Exit → Act → World → Prop}
end
end Go.Abs
namespace Go.Abs
open Go
variable [Amb]
def resultM (P : Program) (r : ResultVar) (k : V → M) : M := match r with
  | .tmp t => getO (.tmp t) k
  | .cell t ty => match szOf P ty, aggOf P ty with
    | some n, some g => getO (.tmp t) fun v => match v with
      | .p key ver p i off => getR [] key ver p fun e _ es => match es[i]? with
        | some el => .req (n ≠ 0 ∧ off + n ≤ el.length) (whole g (toC key e.ver p i off ((el.drop off).take n)) k)
        | none => .bad
      | _ => .bad
    | _, _ => .bad
def resultsM (P : Program) : List ResultVar → (List V → M) → M
  | [], k => k []
  | r :: rs, k => resultM P r fun v => resultsM P rs fun vs => k (v :: vs)
def outM1 (P : Program) (ov : Ws) (v : V) (ty : TypeId) (f : Ws → A → M) : M := match v, kinds P 12 ty with
  | .c c, some [kd] => convs ov [kd] [c] fun ov ts => match ts with
    | [t] => f ov (.c t)
    | _ => .bad
  | .a cs, some ks => convs ov ks cs fun ov ts => f ov (.a ts)
  | .p k ver p i off, _ => .req (p = [] ∧ i = 0 ∧ off = 0) (convs ov [none] [.r k ver [] 0 1] fun ov ts => match ts with
    | [.s true sz es] => f ov (.p sz es)
    | _ => .bad)
  | _, _ => .bad
def outM (P : Program) : Ws → List V → List TypeId → (Ws → List A → M) → M
  | ov, [], [], f => f ov []
  | ov, v :: vs, ty :: tys, f => outM1 P ov v ty fun ov a => outM P ov vs tys fun ov as => f ov (a :: as)
  | _, _, _, _ => .bad
def finT (st : St) (n j : Nat) : T → T
  | .s true _ _ => match st (.k (n, j)) with
    | .e e => if ownEs e.es then .s true e.sz e.es else .d
    | _ => .d
  | _ => .d
def finTs (st : St) (n : Nat) : Nat → List T → List T
  | _, [] => []
  | j, t :: ts => finT st n j t :: finTs st n (j + 1) ts
def finA (st : St) (n : Nat) : A → A
  | .c t => .c (finT st n 0 t)
  | .a ts => .a (finTs st n 0 ts)
  | .p sz es => match finT st n 0 (.s true sz es) with
    | .s true sz' es' => .p sz' es'
    | _ => .c .d
  | a => a
def finAs (st : St) : Nat → List A → List A
  | _, [] => []
  | n, a :: as => finA st n a :: finAs st (n + 1) as
def ExitOK (P : Program) (fn : Func) (as fin res : List A) (st : St) : Prop :=
  (resultsM P fn.results.toList fun vs => outM P [] vs fn.resultTypes.toList fun ov rs => .req (rs = res) (.ret ov)).wp P st fun ov => fin = finAs (app ov st) 0 as
theorem finTs_get : ∀ (ts : List T) (st : St) (n j i : Nat), (finTs st n j ts)[i]? = (ts[i]?).map (finT st n (j + i))
  | [], st, n, j, i => by simp [finTs]
  | t :: ts, st, n, j, 0 => by simp [finTs]
  | t :: ts, st, n, j, i + 1 => by simp only [finTs, List.getElem?_cons_succ]; rw [finTs_get ts st n (j + 1) i, show j + 1 + i = j + (i + 1) by omega]
theorem finAs_get : ∀ (as : List A) (st : St) (n i : Nat), (finAs st n as)[i]? = (as[i]?).map (finA st (n + i))
  | [], st, n, i => by simp [finAs]
  | a :: as, st, n, 0 => by simp [finAs]
  | a :: as, st, n, i + 1 => by simp only [finAs, List.getElem?_cons_succ]; rw [finAs_get as st (n + 1) i, show n + 1 + i = n + (i + 1) by omega]
theorem finT_own {st : St} {n j : Nat} {t : T} {sz : Nat} {es : List (List T)} (h : finT st n j t = .s true sz es) : ∃ ver, st (.k (n, j)) = .e ⟨ver, sz, es⟩ ∧ ownEs es = true := by
  unfold finT at h
  split at h
  · split at h
    · rename_i e he
      split at h
      · rename_i ho
        injection h with _ h1 h2
        subst h1; subst h2
        exact ⟨e.ver, he, ho⟩
      · simp at h
    · simp at h
  · simp at h
theorem finA_ts (st : St) (n : Nat) (a : A) : (finA st n a).ts = finTs st n 0 a.ts := by
  cases a with
  | p sz es =>
    simp only [finA, A.ts, finTs]
    cases hq : finT st n 0 (.s true sz es) with
    | v x => unfold finT at hq; split at hq <;> (try split at hq) <;> (try split at hq) <;> simp at hq
    | d => rfl
    | s own sz' es' =>
      cases own with
      | true => rfl
      | false => unfold finT at hq; split at hq <;> (try split at hq) <;> (try split at hq) <;> simp at hq
  | _ => rfl
theorem finAs_cell {st : St} {as : List A} {k : K} {sz : Nat} {es : List (List T)} (h : cellOf (finAs st 0 as) k = some (sz, es)) : ∃ ver, st (.k k) = .e ⟨ver, sz, es⟩ ∧ ownEs es = true := by
  unfold cellOf at h
  split at h
  · rename_i a ha
    split at h
    · rename_i sz' es' ht
      simp only [Option.some.injEq, Prod.mk.injEq] at h
      obtain ⟨rfl, rfl⟩ := h
      rw [finAs_get] at ha
      cases h1 : as[k.1]? with
      | none => simp [h1] at ha
      | some a0 =>
        rw [h1] at ha
        simp only [Option.map_some, Option.some.injEq, Nat.zero_add] at ha
        subst ha
        rw [finA_ts, finTs_get] at ht
        cases h2 : a0.ts[k.2]? with
        | none => simp [h2] at ht
        | some t =>
          rw [h2] at ht
          simp only [Option.map_some, Option.some.injEq, Nat.zero_add] at ht
          exact finT_own ht
    · simp at h
  · simp at h
def ROK (cx : Cx) (fl : Nat → Option HRow) (o : Nat) (a : A) (y : Value) : Prop := match a with
  | .c t => CellT cx fl o t y
  | .a ts => ∃ ys : Array Value, y = .agg ys ∧ ys.size = ts.length ∧ ∀ (j : Nat) (t : T) (x : Value), ts[j]? = some t → ys[j]? = some x → CellT cx fl (o + j) t x
  | .p sz es => ∃ ad cap, y = .pointer (some ad) ∧ es.length = 1 ∧ cap ≠ 0 ∧ CellT cx fl o (.s true sz es) (.slice (some ad) es.length cap)
  | _ => False
section
variable {P : Program} {cx : Cx} {n np : Nat} {st : St} {Hd : K → Path → Hdr} {a : Act} {w : World} {Kc : Ws → Prop}
theorem CellT.ext {fl fl' : Nat → Option HRow} {j : Nat} {t : T} {y : Value} (h : CellT cx fl j t y) (he : fl' j = fl j) : CellT cx fl' j t y := by
  unfold CellT at *
  rw [he]; exact h
theorem ROK.ext {fl fl' : Nat → Option HRow} {o : Nat} {a : A} {y : Value} (h : ROK cx fl o a y) (he : ∀ i, i < o + a.ts.length → fl' i = fl i) : ROK cx fl' o a y := by
  cases a with
  | c t => exact CellT.ext h (he o (by simp [A.ts]))
  | a ts =>
    obtain ⟨ys, h1, h2, h3⟩ := h
    exact ⟨ys, h1, h2, fun j t x h4 h5 => (h3 j t x h4 h5).ext (he (o + j) (by have := (List.getElem?_eq_some_iff.1 h4).1; simp only [A.ts]; omega))⟩
  | p sz es => obtain ⟨ad, cap, h1, h2, h3, h4⟩ := h; exact ⟨ad, cap, h1, h2, h3, CellT.ext h4 (he o (by simp [A.ts]))⟩
  | q _ _ _ _ => exact h.elim
  | f _ _ => exact h.elim
theorem outM1_ok (hbase : cx.w0.heap.size ≤ w.heap.size) {v : V} {ty : TypeId} {ov : Ws} {f : Ws → A → M} {fl : Nat → Option HRow} {o : Nat} {y : Value} (hm : (outM1 P ov v ty f).wp P st Kc) (hk : HeapOK cx (heapFl (app ov st) Hd fl) w) (hfl : ∀ i, o ≤ i → fl i = none) (hv : VOK cx (app ov st) Hd v y) :
    ∃ ov' a fl', Fewer (app ov st) (app ov' st) Hd Hd ∧ HeapOK cx (heapFl (app ov' st) Hd fl') w ∧ (∀ i, i < o → fl' i = fl i) ∧ (∀ i, o + a.ts.length ≤ i → fl' i = none) ∧ ROK cx fl' o a y ∧ (f ov' a).wp P st Kc := by
  unfold outM1 at hm
  split at hm
  · cases hv with | c _ _ hc =>
    obtain ⟨ov', ts, fl', h1, h2, h3, h4, h5, h6, hm1⟩ := convs_ok (fun _ => y) hbase _ _ ov _ fl o hm hk hfl (fun i c' hi => by
      cases i with
      | zero => simp at hi; subst hi; exact hc
      | succ i => simp at hi)
    cases ts with
    | nil => simp at h4
    | cons t ts =>
      have : ts = [] := by simpa using h4
      subst this
      exact ⟨ov', .c t, fl', h1, h2, h3, fun i hi => h6 i (by simpa [A.ts] using hi), by have h7 := (h5 0 t rfl).1; rw [Nat.add_zero] at h7; exact h7, hm1⟩
  · cases hv with | a cs ys hl hc =>
    obtain ⟨ov', ts, fl', h1, h2, h3, h4, h5, h6, hm1⟩ := convs_ok (fun i => ys.getD (i - o) undef) hbase _ _ ov _ fl o hm hk hfl (fun i c' hi => by
      have hil := (List.getElem?_eq_some_iff.1 hi).1
      have hy : ys[i]? = some (ys.getD (o + i - o) undef) := by rw [Nat.add_sub_cancel_left]; simp [Array.getD_eq_getD_getElem?, Array.getElem?_eq_getElem (by omega : i < ys.size)]
      exact hc i c' _ hi hy)
    refine ⟨ov', .a ts, fl', h1, h2, h3, fun i hi => h6 i (by simpa [A.ts, h4] using hi), ⟨ys, rfl, by omega, fun j t x ht hx => ?_⟩, hm1⟩
    have := (h5 j t ht).1
    rw [Nat.add_sub_cancel_left, Array.getD_eq_getD_getElem?, hx] at this
    exact this
  · rename_i k ver p i off
    obtain ⟨⟨rfl, rfl, rfl⟩, hm⟩ := hm
    cases hv with | p _ _ _ _ _ ad hkn hv =>
    have hm0 := hm
    simp only [convs, conv] at hm0
    obtain ⟨e, he, ⟨_, hlen⟩, _⟩ := getE_inv hm0
    have hrow := hk.row (show heapFl (app ov st) Hd fl (.inl k) = some ⟨e.sz, e.es, Hd k⟩ from HeapOf_some he) (show rowAt e.sz e.es [] = some (e.sz, e.es) from rfl)
    have hcap : e.es.length ≤ (Hd k []).cap := hrow.1
    have hc : COK cx (app ov st) Hd (.r k ver [] 0 1) (.slice (some ad) 1 1) := by
      refine .r _ _ _ _ _ _ _ hkn (Nat.le_refl _) fun sz' es' h' hva => ?_
      obtain ⟨e1, a1, a2, a3, a4⟩ := hva
      have a1' := a1
      rw [he] at a1'
      obtain rfl := X.e.inj a1'
      simp only [rowAt, Option.some.injEq, Prod.mk.injEq] at a3
      obtain ⟨rfl, rfl⟩ := a3
      have h1 := hv _ _ h' ⟨_, a1, a2, rfl, a4⟩ (by omega)
      rw [a4] at hcap
      exact ⟨by omega, fun _ => ⟨by rw [h1]; simp, by omega⟩⟩
    obtain ⟨ov', ts, fl', h1, h2, h3, h4, h5, h6, hm1⟩ := convs_ok (fun _ => .slice (some ad) 1 1) hbase _ _ ov _ fl o hm hk hfl (fun i c' hi => by
      cases i with
      | zero => simp at hi; subst hi; exact hc
      | succ i => simp at hi)
    cases ts with
    | nil => simp at h4
    | cons t ts =>
      have : ts = [] := by simpa using h4
      subst this
      cases t with
      | v _ => exact hm1.elim
      | d => exact hm1.elim
      | s own sz es =>
        cases own with
        | false => exact hm1.elim
        | true =>
          have h7 := (h5 0 _ rfl).1
          rw [Nat.add_zero] at h7
          have hl : es.length = 1 := by
            rcases h7 with ⟨r, _, q2, q3⟩ | ⟨_, q2, _⟩
            · obtain ⟨a, q4, _⟩ := q3
              simp only [Value.slice.injEq] at q4
              exact q4.2.1.symm
            · exact absurd rfl (q2 _ _)
          exact ⟨ov', .p sz es, fl', h1, h2, h3, fun i hi => h6 i (by simpa [A.ts] using hi), ⟨ad, 1, rfl, hl, by omega, by rw [hl]; exact h7⟩, hm1⟩
  · exact hm.elim
theorem outM_ok (hbase : cx.w0.heap.size ≤ w.heap.size) : ∀ (vs : List V) (tys : List TypeId) (ov : Ws) (f : Ws → List A → M) (fl : Nat → Option HRow) (o : Nat) (yy : Nat → Value), (outM P ov vs tys f).wp P st Kc → HeapOK cx (heapFl (app ov st) Hd fl) w → (∀ i, o ≤ i → fl i = none) → (∀ (i : Nat) (v : V), vs[i]? = some v → VOK cx (app ov st) Hd v (yy i)) →
    ∃ ov' rs fl', ∃ offs : Nat → Nat, Fewer (app ov st) (app ov' st) Hd Hd ∧ HeapOK cx (heapFl (app ov' st) Hd fl') w ∧ (∀ i, i < o → fl' i = fl i) ∧ rs.length = vs.length ∧ (∀ (n : Nat) (a : A), rs[n]? = some a → o ≤ offs n ∧ ROK cx fl' (offs n) a (yy n)) ∧
      (∀ (n m : Nat) (a b : A), n < m → rs[n]? = some a → rs[m]? = some b → offs n + a.ts.length ≤ offs m) ∧ (f ov' rs).wp P st Kc
  | [], [], ov, f, fl, o, yy, hm, hk, hfl, hv => ⟨ov, [], fl, fun _ => 0, Fewer.refl _ _, hk, fun _ _ => rfl, rfl, fun n a h => by simp at h, fun n m a b _ h => by simp at h, hm⟩
  | [], _ :: _, ov, f, fl, o, yy, hm, hk, hfl, hv => hm.elim
  | _ :: _, [], ov, f, fl, o, yy, hm, hk, hfl, hv => hm.elim
  | v :: vs, ty :: tys, ov, f, fl, o, yy, hm, hk, hfl, hv => by
    obtain ⟨ov1, a, fl1, h1, h2, h3, h4, h5, hm1⟩ := outM1_ok hbase hm hk hfl (hv 0 v rfl)
    obtain ⟨ov2, rs, fl2, offs, k1, k2, k3, k4, k5, k6, hm2⟩ := outM_ok hbase vs tys ov1 _ fl1 (o + a.ts.length) (fun i => yy (i + 1)) hm1 h2 h4 (fun i v' hi => h1.vok (hv (i + 1) v' (by simpa using hi)))
    refine ⟨ov2, a :: rs, fl2, fun i => match i with | 0 => o | i + 1 => offs i, h1.trans k1, k2, fun i hi => by rw [k3 i (by omega), h3 i hi], by simp [k4], fun n' a' ha => ?_, fun n' m' a' b' hlt ha hb => ?_, hm2⟩
    · cases n' with
      | zero => simp at ha; subst ha; exact ⟨Nat.le_refl _, h5.ext k3⟩
      | succ n' => obtain ⟨q1, q2⟩ := k5 n' a' (by simpa using ha); exact ⟨by simp only []; omega, q2⟩
    · cases m' with
      | zero => omega
      | succ m' =>
        cases n' with
        | zero => simp at ha; subst ha; exact (k5 m' b' (by simpa using hb)).1
        | succ n' => exact k6 n' m' a' b' (by omega) (by simpa using ha) (by simpa using hb)
end
end Go.Abs
namespace Go.Abs
open Go
variable [Amb]
theorem COK.cx {w : World} {X : Nat → Prop} {h1 h2 : K → Option Hdr} {st : St} {Hd : K → Path → Hdr} {c : C} {y : Value} (h : COK ⟨w, X, h1⟩ st Hd c y) : COK ⟨w, X, h2⟩ st Hd c y := by
  cases h with
  | v => exact .v _
  | b y sz es h => exact .b _ _ _ h
  | n => exact .n
  | u y => exact .u _
  | r k ver p off len a cap hk hl hv => exact .r _ _ _ _ _ _ _ hk hl hv
theorem VOK.cx {w : World} {X : Nat → Prop} {h1 h2 : K → Option Hdr} {st : St} {Hd : K → Path → Hdr} {v : V} {y : Value} (h : VOK ⟨w, X, h1⟩ st Hd v y) : VOK ⟨w, X, h2⟩ st Hd v y := by
  induction h with
  | c c y h => exact .c _ _ h.cx
  | a cs ys hl h => exact .a _ _ hl fun i c y a b => (h i c y a b).cx
  | p k ver p i off a hk hv => exact .p _ _ _ _ _ _ hk hv
  | q sz es i off b o cap h hi => exact .q _ _ _ _ _ _ _ h hi
  | t vs ys hl h ih => exact .t _ _ hl ih
  | f fn caps ys hl h ih => exact .f _ _ _ hl ih
  | u => exact .u
section
variable {P : Program} {cx : Cx} {n np : Nat} {st : St} {Hd : K → Path → Hdr} {a : Act} {w : World} {Kc : Ws → Prop}
def resRead (tmps : Array Value) : ResultVar → Sem Value
  | .tmp t => pure (tmps.getD t undef)
  | .cell x t => do loadVar t (← asAddr (tmps.getD x undef))
theorem results_eq (fn : Func) (tmps : Array Value) : results fn tmps = (do let vs ← fn.results.mapM (resRead tmps); pure (if h : vs.size = 1 then vs[0] else .tuple vs)) := by
  rfl
theorem resultM_ok (h : Rel cx n st Hd a w) {r : ResultVar} {k : V → M} (hm : (resultM P r k).wp P st Kc) :
    ∃ v y, (resRead a.tmps r).run P w = .ok y w ∧ VOK cx st Hd v y ∧ (k v).wp P st Kc := by
  cases r with
  | tmp t =>
    have hm : (getO (.tmp t) k).wp P st Kc := hm
    obtain ⟨v, hv, hm⟩ := getO_ok h hm
    refine ⟨v, a.eval (.tmp t), ?_, hv, hm⟩
    simp [resRead, Act.eval, Array.getD_eq_getD_getElem?]
  | cell x t =>
    simp only [resultM] at hm
    cases hs : szOf P t with
    | none => simp [hs, M.wp] at hm
    | some m =>
    cases hg : aggOf P t with
    | none => simp [hs, hg, M.wp] at hm
    | some g =>
    simp only [hs, hg] at hm
    obtain ⟨v, hv, hm⟩ := getO_ok h hm
    generalize hev : a.eval (.tmp x) = y0 at hv
    cases hv with
    | c c y hc => exact hm.elim
    | a cs ys h1 h2 => exact hm.elim
    | t vs ys h1 h2 => exact hm.elim
    | f fn caps ys h1 h2 => exact hm.elim
    | u => exact hm.elim
    | q sz es i off b oo cap hb hi => exact hm.elim
    | p k ver p i off ad hk hv =>
      obtain ⟨e, sz, es, he, hver, hr, hm⟩ := mutual_getR hm
      cases hi : es[i]? with
      | none => rw [hi] at hm; exact hm.elim
      | some el =>
        rw [hi] at hm
        obtain ⟨⟨hm0, hle⟩, hm⟩ := hm
        have hrow := row_of h.heap he hr
        have hil := (List.getElem?_eq_some_iff.1 hi).1
        have had := hv sz es _ ⟨e, he, hver, hr, rfl⟩ hil
        obtain ⟨ys, hys, hR⟩ := array_of (n := m) (R := fun j y => w.cell? (ad.add j) = some y ∧ ∀ t, el[off + j]? = some t → COK cx st Hd (toC1 k e.ver p i (off + j) t) y) (fun j hj => by
          have hlt : off + j < el.length := by omega
          obtain ⟨h1, y, hy, hok⟩ := row_cell hrow hi (List.getElem?_eq_getElem hlt)
          refine ⟨y, ?_, fun t ht => ?_⟩
          · rw [had, addr_add, Nat.add_assoc, Nat.add_assoc]; exact hy
          · rw [List.getElem?_eq_getElem hlt] at ht
            obtain rfl := Option.some.inj ht
            exact toC1_ok h.heap he hr hi (List.getElem?_eq_getElem hlt) hok)
        have hlen : (toC k e.ver p i off ((el.drop off).take m)).length = m := by rw [toC_length]; simp; omega
        obtain ⟨v, hm, hv1, hv2⟩ := whole_ok hm (by omega) (ys := ys) (by omega) (fun j c y hc hy => by
          rw [toC_get] at hc
          cases hq : ((el.drop off).take m)[j]? with
          | none => simp [hq] at hc
          | some t =>
            rw [hq] at hc
            obtain rfl := Option.some.inj hc
            have hj : j < m := by have := (List.getElem?_eq_some_iff.1 hq).1; simp at this; omega
            rw [List.getElem?_take_of_lt hj, List.getElem?_drop] at hq
            exact (hR j y hy).2 t hq)
        have hrun : (Instr.loadAt t (a.eval (.tmp x))).run P w = .ok (if g then .agg ys else ys.getD 0 undef) w := by
          rw [hev]
          refine load_run hs hg hys (fun hg' => ?_) (fun j y hy => (hR j y hy).1)
          obtain ⟨y, hy, _⟩ := hv2 hg'
          rw [← hys, hy]; rfl
        refine ⟨v, if g then .agg ys else ys.getD 0 undef, ?_, ?_, hm⟩
        · have he2 : a.tmps.getD x undef = a.eval (.tmp x) := by simp [Act.eval, Array.getD_eq_getD_getElem?]
          simp only [resRead, he2]
          rw [hev] at hrun ⊢
          simpa [resRead, Instr.loadAt, Instr.sureAddr, asAddr] using hrun
        · cases g with
          | true => exact hv1 rfl
          | false => obtain ⟨y, hy, hvy⟩ := hv2 rfl; rw [hy]; exact hvy
theorem resultsM_ok (h : Rel cx n st Hd a w) : ∀ (rs : List ResultVar) (k : List V → M), (resultsM P rs k).wp P st Kc →
    ∃ vs ys, vs.length = rs.length ∧ ys.length = rs.length ∧ (rs.mapM (resRead a.tmps)).run P w = .ok ys w ∧
      (∀ (i : Nat) (v : V) (y : Value), vs[i]? = some v → ys[i]? = some y → VOK cx st Hd v y) ∧ (k vs).wp P st Kc
  | [], k, hm => ⟨[], [], rfl, rfl, by simp, fun i v y h => by simp at h, hm⟩
  | r :: rs, k, hm => by
    obtain ⟨v, y, h1, h2, hm1⟩ := resultM_ok h hm
    obtain ⟨vs, ys, k1, k2, k3, k4, hm2⟩ := resultsM_ok h rs _ hm1
    refine ⟨v :: vs, y :: ys, by simp [k1], by simp [k2], ?_, fun i v' y' hv hy => ?_, hm2⟩
    · rw [List.mapM_cons, Sem.run_bind]
      rw [h1]
      simp only [Result.andThen_ok, Sem.run_bind]
      rw [k3]
      simp
    · cases i with
      | zero => simp at hv hy; subst hv; subst hy; exact h2
      | succ i => exact k4 i v' y' (by simpa using hv) (by simpa using hy)
theorem Fn.ofX {f : Nat} {fn : Func} {c : Code} {as fin res : List A} (hf : P.funcs[f]? = some fn) (hb : fn.body = some c) (hname : fn.name ≠ "runtime.NumGoroutine") (hn : as.length ≤ fn.ntmps) (hfin : finOK fin = true) (hres : resOK res = true)
    (hc : ∀ (cx : Cx) (Hd : K → Path → Hdr) (a : Act) (w : World), (∀ k h, cx.H0 k = some h → k.1 < as.length) → (∀ k, (cellOf as k).isSome → cx.H0 k = some (Hd k [])) → Rel cx fn.ntmps (entrySt as) Hd a w → c.wp P (fun e a' w' => ∃ st' Hd', ((e = .normal ∨ e = .ret) ∧ ExitOK P fn as fin res st') ∧ Rel cx fn.ntmps st' Hd' a' w') a w) : Fn P f as fin res := by
  refine ⟨⟨fn, hf, hname, by rw [hb]; rfl⟩, hfin, hres, fun w X vals Hd hsz hvok hheap hamb => ?_⟩
  have hcell : ∀ k, (cellOf as k).isSome → k.1 < as.length ∧ ∃ sz es, entrySt as (.k k) = .e ⟨0, sz, es⟩ := by
    intro k hk
    obtain ⟨⟨sz, es⟩, hk⟩ := Option.isSome_iff_exists.1 hk
    refine ⟨?_, sz, es, by simp [entrySt, hk]⟩
    unfold cellOf at hk
    split at hk
    · rename_i a ha; exact (List.getElem?_eq_some_iff.1 ha).1
    · simp at hk
  have hrel : Rel ⟨w, X, fun k => if (cellOf as k).isSome then some (Hd k []) else none⟩ fn.ntmps (entrySt as) Hd { tmps := vals ++ Array.replicate (fn.ntmps - vals.size) undef, defers := [] } w := by
    refine ⟨rfl, by simp; omega, fun t v hv => ?_, ⟨hheap.rows, hheap.inj, hheap.blk⟩, ⟨rfl, rfl, rfl, Nat.le_refl _, fun _ _ _ => rfl⟩, fun k h hk => ?_, hamb⟩
    · have hlt : t < as.length := by
        simp only [entrySt] at hv
        split at hv
        · rename_i a ha; exact (List.getElem?_eq_some_iff.1 ha).1
        · simp at hv
      refine ⟨by omega, ?_⟩
      have := hvok t v hv
      have hE : (vals ++ Array.replicate (fn.ntmps - vals.size) undef).getD t undef = vals.getD t undef := by
        simp only [Array.getD_eq_getD_getElem?]
        rw [Array.getElem?_append_left (by omega)]
      rw [hE]
      exact this.cx
    · simp only [] at hk
      split at hk
      · rename_i hs
        obtain rfl := Option.some.inj hk
        obtain ⟨_, sz, es, he⟩ := hcell k hs
        exact ⟨by rw [he]; simp, fun _ _ => rfl⟩
      · simp at hk
  refine calls_of_wp hf hb (wp_mono (hc _ Hd _ w (fun k h hk => ?_) (fun k hk => by simp only [hk, if_true]) hrel) ?_)
  · simp only [] at hk
    split at hk
    · rename_i hs; exact (hcell k hs).1
    · simp at hk
  · rintro e a' w' ⟨st', Hd', ⟨he, hex⟩, hr⟩
    obtain ⟨vs, ys, h1, h2, h3, h4, hm⟩ := resultsM_ok hr _ _ hex
    obtain ⟨ov, rs, fl', offs, k1, k2, _, k4, k5, k6, hrs, hkc⟩ := outM_ok hr.keep.size vs _ [] _ (fun _ => none) 0 (fun i => ys.getD i undef) hm (by rw [heapFl_none]; exact hr.heap) (fun _ _ => rfl) (fun i v hv => by
      have hil := (List.getElem?_eq_some_iff.1 hv).1
      have hy : ys[i]? = some (ys.getD i undef) := by simp [List.getD_eq_getElem?_getD, List.getElem?_eq_getElem (by omega : i < ys.length)]
      exact h4 i v _ hv hy)
    subst hrs
    have hkc : fin = finAs (app ov st') 0 as := hkc
    have hcells : ∀ nn j sz es, cellOf rs (nn, j) = some (sz, es) → ∃ a : A, rs[nn]? = some a ∧ j < a.ts.length ∧ ∃ hd, fl' (offs nn + j) = some ⟨sz, es, hd⟩ := by
      intro nn j sz es hcl
      unfold cellOf at hcl
      split at hcl
      · rename_i aa ha
        split at hcl
        · rename_i sz' es' ht
          simp only [Option.some.injEq, Prod.mk.injEq] at hcl
          obtain ⟨rfl, rfl⟩ := hcl
          have hjl := (List.getElem?_eq_some_iff.1 ht).1
          refine ⟨aa, ha, hjl, ?_⟩
          have hrok := (k5 nn aa ha).2
          have hct : ∃ y, CellT ⟨w, X, fun k => if (cellOf as k).isSome then some (Hd k []) else none⟩ fl' (offs nn + j) (.s true sz' es') y := by
            cases aa with
            | c t =>
              cases j with
              | zero => simp [A.ts] at ht; subst ht; exact ⟨_, hrok⟩
              | succ j => simp [A.ts] at ht
            | a ts =>
              obtain ⟨yy, q1, q2, q3⟩ := hrok
              simp only [A.ts] at ht hjl
              have hy : yy[j]? = some yy[j] := Array.getElem?_eq_getElem (by omega)
              exact ⟨_, q3 j _ _ ht hy⟩
            | p sz2 es2 =>
              obtain ⟨ad, cap, q1, q2, q3, q4⟩ := hrok
              cases j with
              | zero => simp [A.ts] at ht; obtain ⟨rfl, rfl⟩ := ht; exact ⟨_, q4⟩
              | succ j => simp [A.ts] at ht
            | q _ _ _ _ => exact hrok.elim
            | f _ _ => exact hrok.elim
          obtain ⟨y, hct⟩ := hct
          rcases hct with ⟨r, q1, q2, _⟩ | ⟨_, q2, _⟩
          · injection q2 with _ q3 q4
            subst q3; subst q4
            exact ⟨r.hd, q1⟩
          · exact absurd rfl (q2 _ _)
        · simp at hcl
      · simp at hcl
    have hpost : ∃ v Hd2, (results fn a'.tmps).run P w' = .ok v w' ∧ (HeapOK ⟨w, X, fun _ => none⟩ (exitHeap fin rs Hd2) w' ∧ Keep ⟨w, X, fun _ => none⟩ w' ∧ RetOK ⟨w, X, fun _ => none⟩ Hd2 rs v ∧ ∀ k, (cellOf as k).isSome → (cellOf fin k).isSome → Hd2 (.inl k) [] = Hd k []) := by
      refine ⟨if h : ys.length = 1 then ys[0] else .tuple ys.toArray, fun i => match i with | .inl k => Hd' k | .inr x => match fl' (offs x.1 + x.2) with | some r => r.hd | none => fun _ => ⟨0, 0, 0⟩, ?_, ?_, ⟨hr.keep.os, hr.keep.tape, hr.keep.output, hr.keep.size, hr.keep.block⟩, ?_, ?_⟩
      · rw [results_eq]
        rw [Sem.run_bind, Array.mapM_eq_mapM_toList]
        simp only [map_eq_pure_bind, Sem.run_bind]
        rw [h3]
        simp
      · have hk2 : HeapOK ⟨w, X, fun _ => none⟩ (heapFl (app ov st') Hd' fl') w' := ⟨k2.rows, k2.inj, k2.blk⟩
        refine hk2.reindex (fun i => match i with | .inl k => .inl k | .inr x => .inr (offs x.1 + x.2, 0)) (fun i r hir => ?_) (fun i j r s hi hj hE => ?_)
        · cases i with
          | inl k =>
            simp only [exitHeap] at hir
            cases hcl : cellOf fin k with
            | none => simp [hcl] at hir
            | some z =>
              obtain ⟨sz, es⟩ := z
              simp only [hcl, Option.map_some, Option.some.injEq] at hir
              rw [hkc] at hcl
              obtain ⟨ver, q1, _⟩ := finAs_cell hcl
              rw [← hir]
              exact HeapOf_some q1
          | inr x =>
            obtain ⟨nn, j⟩ := x
            simp only [exitHeap] at hir
            cases hcl : cellOf rs (nn, j) with
            | none => simp [hcl] at hir
            | some z =>
              obtain ⟨sz, es⟩ := z
              simp only [hcl, Option.map_some, Option.some.injEq] at hir
              obtain ⟨aa, _, _, hd, q⟩ := hcells nn j sz es hcl
              rw [← hir]
              simp only [q]
              exact q
        · cases i with
          | inl k =>
            cases j with
            | inl k' => simp only [Sum.inl.injEq] at hE; rw [hE]
            | inr y => simp at hE
          | inr x =>
            cases j with
            | inl k' => simp at hE
            | inr y =>
              obtain ⟨n1, j1⟩ := x
              obtain ⟨n2, j2⟩ := y
              simp only [Sum.inr.injEq, Prod.mk.injEq, and_true] at hE
              simp only [exitHeap] at hi hj
              cases hc1 : cellOf rs (n1, j1) with
              | none => simp [hc1] at hi
              | some z1 =>
              cases hc2 : cellOf rs (n2, j2) with
              | none => simp [hc2] at hj
              | some z2 =>
              obtain ⟨a1, q1, q2, _⟩ := hcells n1 j1 z1.1 z1.2 hc1
              obtain ⟨a2, q3, q4, _⟩ := hcells n2 j2 z2.1 z2.2 hc2
              rcases Nat.lt_trichotomy n1 n2 with hlt | heq | hlt
              · have := k6 n1 n2 a1 a2 hlt q1 q3; omega
              · subst heq; congr 2; omega
              · have := k6 n2 n1 a2 a1 hlt q3 q1; omega
      · have hA : ∀ (i : Nat) (A : A) (y : Value), rs[i]? = some A → ys[i]? = some y → AOK ⟨w, X, fun _ => none⟩ (fun i => match i with | .inl k => Hd' k | .inr x => match fl' (offs x.1 + x.2) with | some r => r.hd | none => fun _ => ⟨0, 0, 0⟩) i A y := by
          intro i A y hA hy
          have hrok := (k5 i A hA).2
          rw [List.getD_eq_getElem?_getD, hy, Option.getD_some] at hrok
          have hct : ∀ j t x, CellT ⟨w, X, fun k => if (cellOf as k).isSome then some (Hd k []) else none⟩ fl' (offs i + j) t x → TOK ⟨w, X, fun _ => none⟩ ((match fl' (offs i + j) with | some r => r.hd | none => fun _ => ⟨0, 0, 0⟩) []) t x := by
            intro j t x h
            rcases h with ⟨r, q1, _, q3⟩ | ⟨_, _, q3⟩
            · rw [q1]; exact q3
            · exact q3 _
          cases A with
          | c t => exact hct 0 t y hrok
          | a ts =>
            obtain ⟨yy, q1, q2, q3⟩ := hrok
            exact ⟨yy, q1, q2, fun j t x h1 h2 => hct j t x (q3 j t x h1 h2)⟩
          | p sz2 es2 =>
            obtain ⟨ad, cap, q1, q2, q3, q4⟩ := hrok
            have h7 := hct 0 _ _ q4
            obtain ⟨a0, h8, h9⟩ := h7
            simp only [Value.slice.injEq, true_and] at h8
            obtain ⟨rfl, h8⟩ := h8
            rw [h8] at q3
            exact ⟨ad, q1, q2, q3, _, rfl, h9⟩
          | q _ _ _ _ => exact hrok.elim
          | f _ _ => exact hrok.elim
        have hlen : rs.length = ys.length := by omega
        unfold RetOK
        split
        · rename_i A
          have h0 : ys.length = 1 := by simpa using hlen.symm
          rw [dif_pos h0]
          exact hA 0 A _ rfl (List.getElem?_eq_getElem (by omega))
        · rename_i hne
          have h0 : ¬ ys.length = 1 := by
            intro h0
            cases rs with
            | nil => simp at hlen; omega
            | cons A rs' =>
              have : rs' = [] := by apply List.eq_nil_of_length_eq_zero; simp at hlen; omega
              subst this
              exact hne A rfl
          rw [dif_neg h0]
          exact ⟨ys.toArray, rfl, by simp [hlen], fun i A y h1 h2 => hA i A y h1 (by simpa using h2)⟩
      · intro k hka hkf
        obtain ⟨⟨sz, es⟩, hcl⟩ := Option.isSome_iff_exists.1 hkf
        rw [hkc] at hcl
        obtain ⟨ver, q1, _⟩ := finAs_cell hcl
        obtain ⟨_, sz0, es0, he0⟩ := hcell k hka
        have hh := hr.hdr k (Hd k []) (by simp [hka])
        have hkn : known st' k 0 := ⟨hh.1, fun _ _ => Nat.zero_le _⟩
        obtain ⟨es1, ⟨e1, q2, _, _, q5⟩, _⟩ := k1.va k 0 [] sz es (Hd' k []) hkn ⟨_, q1, .inl rfl, rfl, rfl⟩
        exact hh.2 e1 q2
    obtain ⟨v, Hd2, hrun, hrest⟩ := hpost
    rcases he with rfl | rfl
    · exact ⟨hr.defers, v, hrun, v, Hd2, rfl, hrest⟩
    · exact ⟨hr.defers, v, hrun, v, Hd2, rfl, hrest⟩
theorem Fn.of {f : Nat} {fn : Func} {c : Code} {as fin res : List A} (hf : P.funcs[f]? = some fn) (hb : fn.body = some c) (hname : fn.name ≠ "runtime.NumGoroutine") (hn : as.length ≤ fn.ntmps) (hfin : finOK fin = true) (hres : resOK res = true)
    (hc : AW P fn.ntmps as.length c (entrySt as) fun e st => (e = .normal ∨ e = .ret) ∧ ExitOK P fn as fin res st) : Fn P f as fin res :=
  Fn.ofX hf hb hname hn hfin hres fun cx Hd a w h0 _ hr => hc cx Hd a w h0 hr
end
end Go.Abs

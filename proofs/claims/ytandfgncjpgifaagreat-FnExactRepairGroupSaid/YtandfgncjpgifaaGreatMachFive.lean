/- A small abstract machine over the kit's wp, part of it: states of slots and owned rows, and what each operation does to them. No condition. -/
import Derived.Test.YtandfgncjpgifaaGreatMachFour
set_option linter.unusedVariables false
set_option linter.unusedSimpArgs false
set_option linter.constructorNameAsVariable false
namespace Go.Abs
open Go
def Raw (H : K → Option Hdr) (k : K) (x : Value) (len : Nat) : Prop :=
  ∃ (a : Option Addr) (cap : Nat) (h : Hdr), x = .slice a len cap ∧ H k = some h ∧ len ≤ cap ∧ (cap ≠ 0 → a = some ⟨h.b, h.o, none⟩ ∧ cap ≤ h.cap)
theorem Raw.one {H : K → Option Hdr} {k : K} {x : Value} {len : Nat} (h : Raw H k x len) : x.oneCell' = true := by
  obtain ⟨a, cap, hh, rfl, _⟩ := h
  rfl
def CVs (H : K → Option Hdr) (st : St) : List (Option K) → List C → List C → Prop
  | [], [], cs' => cs' = []
  | none :: ks, c :: cs, cs' => ∃ r, cs' = c :: r ∧ CVs H st ks cs r
  | some k :: ks, c :: cs, cs' => ∃ x e r, c = .v x ∧ st (.k k) = .e e ∧ Raw H k x e.es.length ∧ cs' = .r k 0 [] 0 e.es.length :: r ∧ CVs H st ks cs r
  | _, _, _ => False
theorem CVs_ok {cx : Cx} {n : Nat} {st : St} {Hd : K → Path → Hdr} {a : Act} {w : World} (h : Rel cx n st Hd a w) : ∀ (ks : List (Option K)) (cs cs' : List C), CVs cx.H0 st ks cs cs' → cs'.length = cs.length ∧ ∀ (i : Nat) (c c' : C) (y : Value), cs[i]? = some c → cs'[i]? = some c' → COK cx st Hd c y → COK cx st Hd c' y
  | [], [], cs', hh => by
    obtain rfl : cs' = [] := hh
    exact ⟨rfl, fun i c c' y h1 => by simp at h1⟩
  | none :: ks, c :: cs, cs', ⟨r, e, hr⟩ => by
    subst e
    obtain ⟨h1, h2⟩ := CVs_ok h ks cs r hr
    refine ⟨by simp [h1], fun i d d' y q1 q2 q3 => ?_⟩
    cases i with
    | zero => simp at q1 q2; subst q1; subst q2; exact q3
    | succ i => exact h2 i d d' y (by simpa using q1) (by simpa using q2) q3
  | some k :: ks, c :: cs, cs', ⟨x, e, r, e1, e2, e3, e4, hr⟩ => by
    subst e4; subst e1
    obtain ⟨h1, h2⟩ := CVs_ok h ks cs r hr
    refine ⟨by simp [h1], fun i d d' y q1 q2 q3 => ?_⟩
    cases i with
    | zero =>
      simp at q1 q2; subst q1; subst q2
      cases q3
      obtain ⟨ad, cap, hh, rfl, f1, f2, f3⟩ := e3
      refine .r _ _ _ _ _ _ _ ⟨by rw [e2]; simp, fun _ _ => Nat.zero_le _⟩ f2 (fun sz es hd hv => ?_)
      obtain ⟨e', g1, _, g2, g3⟩ := hv
      rw [e2] at g1
      obtain rfl := X.e.inj g1
      simp only [rowAt, Option.some.injEq, Prod.mk.injEq] at g2
      obtain ⟨rfl, rfl⟩ := g2
      have g4 := (h.hdr k hh f1).2 _ e2
      rw [g4] at g3
      subst g3
      refine ⟨by omega, fun hc => ?_⟩
      obtain ⟨f4, f5⟩ := f3 hc
      exact ⟨by rw [f4]; simp, by omega⟩
    | succ i => exact h2 i d d' y (by simpa using q1) (by simpa using q2) q3
  | [], _ :: _, _, hh => hh.elim
  | none :: _, [], _, hh => hh.elim
  | some _ :: _, [], _, hh => hh.elim
theorem known_slot {st : St} {t : Nat} {v : V} {k : K} : app [(.s t, .v v)] st (.k k) = st (.k k) := by
  simp [app, ovl]
theorem COK.slot {cx : Cx} {st : St} {Hd : K → Path → Hdr} {t : Nat} {v' : V} {c : C} {y : Value} (h : COK cx st Hd c y) : COK cx (app [(.s t, .v v')] st) Hd c y := by
  refine h.mono (fun k ver hk => ?_) (fun k ver p sz es hd hk hv => ?_)
  · unfold known at *; rw [known_slot]; exact hk
  · refine ⟨es, ?_, rfl⟩
    unfold valid at *; rw [known_slot] at hv; exact hv
theorem VOK.slot {cx : Cx} {st : St} {Hd : K → Path → Hdr} {t : Nat} {v' : V} {v : V} {y : Value} (h : VOK cx st Hd v y) : VOK cx (app [(.s t, .v v')] st) Hd v y := by
  refine h.mono (fun k ver hk => ?_) (fun k ver p sz es hd hk hv => ?_)
  · unfold known at *; rw [known_slot]; exact hk
  · refine ⟨es, ?_, rfl⟩
    unfold valid at *; rw [known_slot] at hv; exact hv
def sameV : V → V → List C → List C → Prop
  | .c c, .c c', cs, cs' => cs = [c] ∧ cs' = [c']
  | .a ds, .a ds', cs, cs' => cs = ds ∧ cs' = ds'
  | _, _, _, _ => False
theorem Rel.slot {cx : Cx} {n : Nat} {st : St} {Hd : K → Path → Hdr} {a : Act} {w : World} (h : Rel cx n st Hd a w) {t : Nat} {v v' : V} (hs : st (.s t) = .v v) (hv : ∀ y, VOK cx st Hd v y → VOK cx st Hd v' y) : Rel cx n (app [(.s t, .v v')] st) Hd a w := by
  refine ⟨h.defers, h.size, fun t' u hu => ?_, ?_, h.keep, fun k hh hk => ?_⟩
  · by_cases ht : t' = t
    · subst ht
      have : v' = u := by simpa [app, ovl] using hu
      subst this
      obtain ⟨h1, h2⟩ := h.slots t' v hs
      exact ⟨h1, (hv _ h2).slot⟩
    · have : st (.s t') = .v u := by
        have hne : ¬ t = t' := fun e => ht e.symm
        simpa [app, ovl, hne, ht] using hu
      obtain ⟨h1, h2⟩ := h.slots t' u this
      exact ⟨h1, h2.slot⟩
  · have e : HeapOf (app [(.s t, .v v')] st) Hd = HeapOf st Hd := by
      funext i
      cases i with
      | inl k => simp only [HeapOf, known_slot]
      | inr _ => rfl
    rw [e]; exact h.heap
  · rw [known_slot]; exact h.hdr k hh hk
theorem Rel.raw {cx : Cx} {n : Nat} {st : St} {Hd : K → Path → Hdr} {a : Act} {w : World} (h : Rel cx n st Hd a w) {t : Nat} {v v' : V} {ks : List (Option K)} {cs cs' : List C} (hs : st (.s t) = .v v) (hsm : sameV v v' cs cs') (hc : CVs cx.H0 st ks cs cs') : Rel cx n (app [(.s t, .v v')] st) Hd a w := by
  obtain ⟨hl, hcc⟩ := CVs_ok h ks cs cs' hc
  refine h.slot hs fun y hy => ?_
  unfold sameV at hsm
  split at hsm
  · obtain ⟨rfl, rfl⟩ := hsm
    cases hy with | c _ _ h1 => exact .c _ _ (hcc 0 _ _ y rfl rfl h1)
  · obtain ⟨rfl, rfl⟩ := hsm
    cases hy with | a _ ys h1 h2 =>
    refine .a _ _ (by omega) fun i c y hi hy => ?_
    have hil := (List.getElem?_eq_some_iff.1 hi).1
    exact hcc i _ c y (List.getElem?_eq_getElem (by omega)) hi (h2 i _ y (List.getElem?_eq_getElem (by omega)) hy)
  · exact hsm.elim
def AWh (H : K → Option Hdr) (P : Program) (n np : Nat) (c : Code) (st : St) (Q : Exit → St → Prop) : Prop :=
  ∀ (cx : Cx) (Hd : K → Path → Hdr) (a : Act) (w : World), cx.H0 = H → (∀ k h, cx.H0 k = some h → k.1 < np) → Rel cx n st Hd a w → c.wp P (fun e a' w' => ∃ st' Hd', Q e st' ∧ Rel cx n st' Hd' a' w') a w
section
variable {H : K → Option Hdr} {P : Program} {md : Nat → Nat → Bool} {wr : Bool} {n np : Nat}
theorem wpList_step {ops : Array Oper} {Q : Exit → Act → World → Prop} {o : Oper} {rest : List Oper} {a : Act} {w : World} (h : Step P ops o a w (wpList P ops Q rest) Q) : wpList P ops Q (o :: rest) a w := h
theorem RM_list {ops : List Oper} {cx : Cx} {Q : Exit → Act → World → Prop} {rest2 : List Oper} {KK : Ws → List Foot → Prop} : ∀ (rest : List Oper), (rest.all fun o => match o.dst with | some t => Nat.blt t n | none => true) = true → ∀ {L : Ws} {Hd : K → Path → Hdr} {a : Act} {w : World}, Rel cx n (ofL L) Hd a w → RM P md wr ops rest L KK →
    (∀ L' Hd' a' w', KK L' [] → Rel cx n (ofL L') Hd' a' w' → wpList P ops.toArray Q rest2 a' w') → wpList P ops.toArray Q (rest ++ rest2) a w
  | [], hd, L, Hd, a, w, hr, h, hk => hk L Hd a w h hr
  | o :: rest, hd, L, Hd, a, w, hr, h, hk => by
    simp only [List.all_cons, Bool.and_eq_true] at hd
    rw [RM_cons] at h
    refine wpList_step ?_
    have h1 := operM2_wp (M.wq_wp (K := fun ws => RM P md wr ops rest (ws ++ L) KK) _ [] h)
    refine operM_ok (md := md) (ops := ops.toArray) hr (fun t ht => ?_) (by simpa using h1) (fun ws Hd' a' w' hw hr' => ?_)
    · have := hd.1; rw [ht] at this; exact Nat.blt_eq ▸ this
    · rw [app_ofL] at hr'
      exact RM_list rest hd.2 hr' hw hk
end
end Go.Abs
namespace Go.Abs.E
open Go Go.Abs
def CVT (H : K → Option Hdr) (t : Nat) (ks : List (Option K)) (L : Ws) (G : Ws → Prop) (_h : Hold G) : Prop :=
  ∃ v v' cs cs', ofL L (.s t) = .v v ∧ sameV v v' cs cs' ∧ CVs H (ofL L) ks cs cs' ∧ G ((.s t, .v v') :: L)
def EVH (H : K → Option Hdr) (P : Program) (n np : Nat) (c : Code) (L : Ws) (KK : KX) (_h : Hold (H, P, n, np, c, KK)) : Prop :=
  AWh H P n np c (ofL L) fun e st => ∃ L', st = ofL L' ∧ KK e L'
section
variable {H : K → Option Hdr} {P : Program} {md : Nat → Nat → Bool} {wr : Bool} {n np : Nat} {KK : KX} {L : Ws} {x y : Code}
theorem evh_seq (h : EVH H P n np x L (fun e L' => match e with | .normal => EVH H P n np y L' KK () | e => KK e L') ()) : EVH H P n np (.seq x y) L KK () := by
  intro cx Hd a w hH h0 hr
  refine wp_seq (wp_mono (h cx Hd a w hH h0 hr) ?_)
  rintro e a' w' ⟨st', Hd', ⟨L', rfl, h1⟩, h2⟩
  cases e with
  | normal => exact h1 cx Hd' a' w' hH h0 h2
  | _ => exact ⟨_, Hd', ⟨L', rfl, h1⟩, h2⟩
theorem evh_ret (h : KK .ret L) : EVH H P n np .ret L KK () := fun cx Hd a w _ _ hr => wp_ret ⟨_, Hd, ⟨L, rfl, h⟩, hr⟩
theorem evh_reg {id : Nat} {ops : List Oper} (md : Nat → Nat → Bool) (wr : Bool) (hd : (ops.all fun o => match o.dst with | some t => Nat.blt t n | none => true) = true) (h : RM P md wr ops ops L (fun L' _ => KK .normal L') ()) : EVH H P n np (.region id ops.toArray false) L KK () := by
  intro cx Hd a w hH h0 hr
  refine wp_region_list ?_
  have := RM_list (rest2 := []) (Q := fun e a' w' => ∃ st' Hd', (∃ L', st' = ofL L' ∧ KK e L') ∧ Rel cx n st' Hd' a' w') ops hd hr h (fun L' Hd' a' w' hk hr' => ⟨_, Hd', ⟨L', rfl, hk⟩, hr'⟩)
  simpa using this
theorem evh_conv {id : Nat} {ops : List Oper} (md : Nat → Nat → Bool) (wr : Bool) (m t : Nat) (ks : List (Option K)) (hd : (ops.all fun o => match o.dst with | some t => Nat.blt t n | none => true) = true)
    (h : RM P md wr ops (ops.take m) L (fun L1 _ => CVT H t ks L1 (fun L2 => RM P md wr ops (ops.drop m) L2 (fun L' _ => KK .normal L') ()) ()) ()) : EVH H P n np (.region id ops.toArray false) L KK () := by
  intro cx Hd a w hH h0 hr
  refine wp_region_list ?_
  have hda : ∀ o ∈ ops, (match o.dst with | some t => Nat.blt t n | none => true) = true := List.all_eq_true.1 hd
  have := RM_list (rest2 := ops.drop m) (Q := fun e a' w' => ∃ st' Hd', (∃ L', st' = ofL L' ∧ KK e L') ∧ Rel cx n st' Hd' a' w') (ops.take m) (List.all_eq_true.2 fun o ho => hda o (List.mem_of_mem_take ho)) hr h (fun L1 Hd1 a1 w1 hk hr1 => ?_)
  · simpa using this
  · obtain ⟨v, v', cs, cs', c1, c2, c3, c4⟩ := hk
    subst hH
    have hr2 := hr1.raw c1 c2 c3
    rw [app_ofL] at hr2
    have := RM_list (rest2 := []) (Q := fun e a' w' => ∃ st' Hd', (∃ L', st' = ofL L' ∧ KK e L') ∧ Rel cx n st' Hd' a' w') (ops.drop m) (List.all_eq_true.2 fun o ho => hda o (List.mem_of_mem_drop ho)) hr2 c4 (fun L' Hd' a' w' hk hr' => ⟨_, Hd', ⟨L', rfl, hk⟩, hr'⟩)
    simpa using this
def rawCs (rv : Nat → Value) : Nat → List T → List C
  | _, [] => []
  | j, .s true _ _ :: ts => .v (rv j) :: rawCs rv (j + 1) ts
  | j, t :: ts => entryC 0 j t :: rawCs rv (j + 1) ts
theorem rawCs_get (rv : Nat → Value) : ∀ (ts : List T) (j i : Nat), (rawCs rv j ts)[i]? = (ts[i]?).map fun t => match t with | .s true _ _ => C.v (rv (j + i)) | t => entryC 0 (j + i) t
  | [], j, i => by simp [rawCs]
  | t :: ts, j, 0 => by
    cases t with
    | s own sz es => cases own <;> simp [rawCs]
    | _ => simp [rawCs]
  | t :: ts, j, i + 1 => by
    have := rawCs_get rv ts (j + 1) i
    rw [show j + 1 + i = j + (i + 1) by omega] at this
    cases t with
    | s own sz es => cases own <;> simpa [rawCs] using this
    | _ => simpa [rawCs] using this
theorem rawCs_len (rv : Nat → Value) : ∀ (ts : List T) (j : Nat), (rawCs rv j ts).length = ts.length
  | [], j => rfl
  | t :: ts, j => by
    have := rawCs_len rv ts (j + 1)
    cases t with
    | s own sz es => cases own <;> simpa [rawCs] using this
    | _ => simpa [rawCs] using this
theorem Fn.evH {f : Nat} {fn : Func} {c : Code} {ts : List T} {al fin res : List A} {rs : List ResultVar} {tys : List TypeId} {n : Nat} (hf : P.funcs[f]? = some fn) (hb : fn.body = some c) (hname : fn.name ≠ "runtime.NumGoroutine") (hnt : fn.ntmps = n) (hn : al.length + 1 ≤ n)
    (hr : fn.results.toList = rs) (ht : fn.resultTypes.toList = tys) (hfin : finOK fin = true) (hres : resOK res = true)
    (h : ∀ (H : K → Option Hdr) (rv : Nat → Value), (∀ j sz es, ts[j]? = some (.s true sz es) → Raw H (0, j) (rv j) es.length) →
      EVH H P n (al.length + 1) c ((.s 0, .v (.a (rawCs rv 0 ts))) :: entryL 0 (.a ts :: al)) (fun e L => FK P rs tys (.a ts :: al) fin res e L ()) ()) : Go.Abs.Fn P f (.a ts :: al) fin res := by
  subst hnt
  refine Go.Abs.Fn.ofX hf hb hname hn hfin hres fun cx Hd a w h0 hH hr0 => ?_
  -- the first argument's cells
  obtain ⟨hlt, hv0⟩ := hr0.slots 0 (.a (entryCs 0 0 ts)) rfl
  generalize hy : a.tmps.getD 0 undef = y0 at hv0
  cases hv0 with | a _ ys hl hcell =>
  have hcl : (entryCs 0 0 ts).length = ts.length := by
    have : ∀ (ts : List T) (j : Nat), (entryCs 0 j ts).length = ts.length := fun ts => by
      induction ts with
      | nil => intro j; rfl
      | cons t ts ih => intro j; simp [entryCs, ih]
    exact this ts 0
  have hraw : ∀ j sz es, ts[j]? = some (.s true sz es) → Raw cx.H0 (0, j) (ys.getD j undef) es.length := by
    intro j sz es hj
    have hjl := (List.getElem?_eq_some_iff.1 hj).1
    have hyj : ys[j]? = some (ys.getD j undef) := by simp [Array.getD_eq_getD_getElem?, Array.getElem?_eq_getElem (by omega : j < ys.size)]
    have hc := hcell j (.r (0, j) 0 [] 0 es.length) _ (by rw [entryCs_get, hj]; simp [entryC]) hyj
    have hco : cellOf (.a ts :: al) (0, j) = some (sz, es) := by simp [cellOf, A.ts, hj]
    have h1 := hH (0, j) (by rw [hco]; rfl)
    generalize ys.getD j undef = y at hc
    cases hc with | r _ _ _ _ _ ad cap hk hle hv =>
    obtain ⟨q1, q2⟩ := hv sz es (Hd (0, j) []) ⟨⟨0, sz, es⟩, by simp [entrySt, hco], .inl rfl, rfl, rfl⟩
    refine ⟨ad, cap, Hd (0, j) [], rfl, h1, hle, fun hc => ?_⟩
    obtain ⟨q3, q4⟩ := q2 hc
    exact ⟨by rw [q3]; simp, by omega⟩
  have hr1 : Rel cx fn.ntmps (ofL ((.s 0, .v (.a (rawCs (fun j => ys.getD j undef) 0 ts))) :: entryL 0 (.a ts :: al))) Hd a w := by
    have h2 : Rel cx fn.ntmps (app [(.s 0, .v (.a (rawCs (fun j => ys.getD j undef) 0 ts)))] (entrySt (.a ts :: al))) Hd a w := by
      obtain ⟨r1, r2, r3, r4, r5, r6⟩ := hr0
      refine ⟨r1, r2, fun t' u hu => ?_, ?_, r5, fun k hh hk => ?_⟩
      · by_cases ht : t' = 0
        · subst ht
          have : V.a (rawCs (fun j => ys.getD j undef) 0 ts) = u := by simpa [app, ovl] using hu
          subst this
          refine ⟨hlt, ?_⟩
          rw [hy]
          refine .a _ _ ?_ fun i c y hi hyi => ?_
          · rw [rawCs_len]; omega
          · rw [rawCs_get] at hi
            cases hti : ts[i]? with
            | none => rw [hti] at hi; simp at hi
            | some t =>
              rw [hti] at hi
              have hyi2 : ys.getD i undef = y := by simp [Array.getD_eq_getD_getElem?, hyi]
              have hold := hcell i (entryC 0 (0 + i) t) y (by rw [entryCs_get, hti]; rfl) hyi
              cases t with
              | s own sz es =>
                cases own with
                | true =>
                  simp only [Option.map_some, Option.some.injEq, Nat.zero_add, hyi2] at hi
                  subst hi; exact .v _
                | false =>
                  simp only [Option.map_some, Option.some.injEq] at hi
                  subst hi; exact hold.slot
              | v x => simp only [Option.map_some, Option.some.injEq] at hi; subst hi; exact hold.slot
              | d => simp only [Option.map_some, Option.some.injEq] at hi; subst hi; exact hold.slot
        · have hne : ¬ 0 = t' := fun e => ht e.symm
          have : entrySt (.a ts :: al) (.s t') = .v u := by simpa [app, ovl, hne, ht] using hu
          obtain ⟨h1, h2⟩ := r3 t' u this
          exact ⟨h1, h2.slot⟩
      · have e : HeapOf (app [(.s 0, .v (.a (rawCs (fun j => ys.getD j undef) 0 ts)))] (entrySt (.a ts :: al))) Hd = HeapOf (entrySt (.a ts :: al)) Hd := by
          funext i
          cases i with
          | inl k => simp only [HeapOf, known_slot]
          | inr _ => rfl
        rw [e]; exact r4
      · rw [known_slot]; exact r6 k hh hk
    rw [entrySt_eq, app_ofL] at h2
    exact h2
  refine wp_mono (h cx.H0 (fun j => ys.getD j undef) hraw cx Hd a w rfl h0 hr1) ?_
  rintro e a' w' ⟨st', Hd', ⟨L', rfl, h1, h2⟩, h3⟩
  refine ⟨_, Hd', ⟨h1, ?_⟩, h3⟩
  unfold ExitOK
  rw [hr, ht]
  exact M.wq_wp _ _ h2
end
end Go.Abs.E
namespace Go.Abs.E
open Go Go.Abs
section
variable {H : K → Option Hdr} {L : Ws} {G : Ws → Prop} {t : Nat}
theorem CVT.use1 {k : K} {x : Value} {e : Ent} (hx : ofL L (.s t) = .v (.c (.v x))) (he : ofL L (.k k) = .e e) (hr : Raw H k x e.es.length) (hg : G ((.s t, .v (.c (.r k 0 [] 0 e.es.length))) :: L)) : CVT H t [some k] L G () :=
  ⟨.c (.v x), .c (.r k 0 [] 0 e.es.length), [.v x], [.r k 0 [] 0 e.es.length], hx, ⟨rfl, rfl⟩, ⟨x, e, [], rfl, he, hr, rfl, rfl⟩, hg⟩
theorem CVT.useA {ks : List (Option K)} {cs cs' : List C} (hx : ofL L (.s t) = .v (.a cs)) (hc : CVs H (ofL L) ks cs cs') (hg : G ((.s t, .v (.a cs')) :: L)) : CVT H t ks L G () :=
  ⟨.a cs, .a cs', cs, cs', hx, ⟨rfl, rfl⟩, hc, hg⟩
theorem rawCs_nil {rv : Nat → Value} {j : Nat} : rawCs rv j [] = [] := rfl
theorem rawCs_s {rv : Nat → Value} {j sz : Nat} {es : List (List T)} {ts : List T} : rawCs rv j (.s true sz es :: ts) = .v (rv j) :: rawCs rv (j + 1) ts := rfl
theorem rawCs_v {rv : Nat → Value} {j : Nat} {x : Value} {ts : List T} : rawCs rv j (.v x :: ts) = .v x :: rawCs rv (j + 1) ts := rfl
theorem ofL_eq : ofL = ofL := rfl
theorem take_s {α : Type} {n : Nat} {x : α} {l : List α} : List.take (n + 1) (x :: l) = x :: List.take n l := rfl
end
end Go.Abs.E
namespace Go.Abs.E
open Go Go.Abs
def strB (P : Program) (t : TypeId) : Bool := match P.underlying t with
  | some (.struct _) => true
  | _ => false
def cellB (P : Program) (t : TypeId) : Bool := match P.underlying t with
  | some (.int _) => true
  | some .bool => true
  | some (.slice _) => true
  | _ => false
theorem agg_in {P : Program} {w : World} {r : Reach} {base : Nat} {t : TypeId} {v : Value} (hs : strB P t = true) (h : Value.okWide P w r base t v) : ∃ c, v = .agg c := by
  unfold strB at hs
  unfold Value.okWide at h
  split at hs
  · rename_i fs hu
    simp only [hu] at h
    obtain ⟨cs, e, _⟩ := h
    exact ⟨cs, e⟩
  · simp at hs
theorem cell_in {P : Program} {w : World} {r : Reach} {base : Nat} {t : TypeId} {v : Value} (hs : cellB P t = true) (h : Value.okWide P w r base t v) : ∀ c, v ≠ .agg c := by
  rintro c rfl
  unfold cellB at hs
  unfold Value.okWide at h
  split at hs
  all_goals first
    | (rename_i hu; simp [hu, Cell.okWide, Cell.ok] at h; done)
    | (rename_i x hu; simp [hu, Cell.okWide, Cell.ok] at h; done)
    | (simp at hs)
end Go.Abs.E
namespace Go.Abs
open Go
section
variable {P : Program} {md : Nat → Nat → Bool} {cx : Cx} {n np : Nat} {st : St} {ops : Array Oper} {Q : Exit → Act → World → Prop}
theorem any_okL (hn : DstOK n ops) {wss : Nat → Ws} {fs : List Foot} {m : Nat} (hm : m + 1 = ops.size) (hfl : fs.length = m)
    (hL : ∀ (b : Nat → Bool), Closed ops b → (∀ o, ops[m]? = some o → ∀ e ∈ o.after.toList, Region.binds .any e = true → b e.on = true) → ∀ j, j < m → b j = true)
    (hspec : ∀ (b : Nat → Bool), Closed ops b → ∀ i, i < m → (∀ o, ops[i]? = some o → ∀ e ∈ o.after.toList, Region.binds .any e = true → b e.on = true) → ∀ j, j < i → b j = false → ∃ f g, fs[i]? = some f ∧ fs[j]? = some g ∧ disjoint f.w g.w = true ∧ disjoint f.r g.w = true ∧ disjoint f.w g.r = true)
    (hback : ∀ i o, ops[i]? = some o → ∀ e ∈ o.after.toList, Region.binds .any e = true → e.on < i)
    (hfw : ∀ j, j < m → ∃ f, fs[j]? = some f ∧ f.w = (wss j).map (·.1))
    (hrun : ∀ (j : Nat) (o : Oper), j < m → ops[j]? = some o → ∃ f, fs[j]? = some f ∧ ∀ st', (∀ l, l ∈ f.r → st' l = stOf wss (fun _ => true) j st l) → ∀ Kc : Ws → Prop, Kc (wss j) → (operM P md ops.toList o).wp P st' Kc)
    (hstep : ∀ Hd a w o, ops[m]? = some o → Rel cx n (stOf wss (fun _ => true) m st) Hd a w → Step P ops o a w (fun a' w' => Q .normal a' w') Q)
    (hmono : ∀ o a w KC KC', (∀ a' w', KC a' w' → KC' a' w') → Step P ops o a w KC Q → Step P ops o a w KC' Q) :
    ∀ (fuel : Nat) (listed : Array Bool) (Hd : K → Path → Hdr) (a : Act) (w : World), listed.size = ops.size → Closed ops (fun j => listed.getD j true) → listed.getD m true = false → Rel cx n (stOf wss (fun j => listed.getD j true) m st) Hd a w →
      (List.range ops.size).countP (fun j => !listed.getD j true) ≤ fuel → wpAny P .any ops Q fuel listed a w := by
  have hready : ∀ (listed : Array Bool), listed.size = ops.size → Region.ready .any ops listed = [] → ∀ j, j < ops.size → listed.getD j true = true := by
    intro listed hls hr j
    induction j using Nat.strongRecOn with
    | _ j ih =>
      intro hj
      cases hlj : listed.getD j true with
      | true => rfl
      | false =>
        have ho : ops[j]? = some ops[j] := Array.getElem?_eq_getElem hj
        have : j ∈ Region.ready .any ops listed := by
          refine List.mem_filter.2 ⟨List.mem_range.2 hj, ?_⟩
          simp only [hlj, ho, Bool.not_false, Option.map_some, Option.getD_some, Bool.true_and]
          rw [← Array.all_toList]
          refine List.all_eq_true.2 (fun e he => ?_)
          by_cases hbe : Region.binds .any e = true
          · have hlt := hback j _ ho e he hbe
            have := ih e.on hlt (by omega)
            have h2 : e.on < listed.size := by omega
            simp only [Array.getD_eq_getD_getElem?, Array.getElem?_eq_getElem h2, Option.getD_some] at this ⊢
            simp [hbe, this]
          · simp [hbe]
        rw [hr] at this
        simp at this
  have hdone : ∀ (fuel : Nat) (listed : Array Bool) (a : Act) (w : World), listed.size = ops.size → (∀ j, j < ops.size → listed.getD j true = true) → Q .normal a w → wpAny P .any ops Q fuel listed a w := by
    intro fuel listed a w hls hall hq
    have hre : Region.ready .any ops listed = [] := by
      refine List.filter_eq_nil_iff.2 (fun j hj => ?_)
      rw [hall j (List.mem_range.1 hj)]
      simp
    cases fuel with
    | zero => exact ⟨hre, hq⟩
    | succ fuel => exact ⟨fun _ => hq, fun i hi => by rw [hre] at hi; simp at hi⟩
  intro fuel
  induction fuel with
  | zero =>
    intro listed Hd a w hls hcl hlm hr hcount
    exfalso
    have h1 : (List.range ops.size).countP (fun j => !listed.getD j true) = 0 := by omega
    have := List.countP_eq_zero.1 h1 m (List.mem_range.2 (by omega))
    rw [hlm] at this; simp at this
  | succ fuel ih =>
    intro listed Hd a w hls hcl hlm hr hcount
    refine ⟨fun hre => (by have := hready listed hls hre m (by omega); rw [hlm] at this; simp at this), fun i hi => ?_⟩
    obtain ⟨hi1, hi2⟩ := List.mem_filter.1 hi
    have hil := List.mem_range.1 hi1
    have ho : ops[i]? = some ops[i] := Array.getElem?_eq_getElem hil
    rw [Bool.and_eq_true] at hi2
    have hbi : listed.getD i true = false := by simpa using hi2.1
    have hed : ∀ o, ops[i]? = some o → ∀ e ∈ o.after.toList, Region.binds .any e = true → listed.getD e.on true = true := by
      intro o ho' e he hbe
      have h2 := hi2.2
      simp only [ho', Option.map_some, Option.getD_some] at h2
      rw [← Array.all_toList] at h2
      have h3 := List.all_eq_true.1 h2 e he
      have h4 : listed.getD e.on false = true := by simpa [hbe] using h3
      by_cases h5 : e.on < listed.size
      · simp only [Array.getD_eq_getD_getElem?, Array.getElem?_eq_getElem h5, Option.getD_some] at h4 ⊢; exact h4
      · simp [Array.getD_eq_getD_getElem?, Array.getElem?_eq_none (by omega : listed.size ≤ e.on)] at h4
    by_cases him : i = m
    · -- the last one
      subst him
      have hall := hL _ hcl hed
      have e1 : stOf wss (fun j => listed.getD j true) i st = stOf wss (fun _ => true) i st := stOf_all i hall
      rw [e1] at hr
      have hst := hstep Hd a w _ ho hr
      have := hmono _ a w _ (fun a' w' => wpAny P .any ops Q fuel (listed.setIfInBounds i true) a' w') (fun a' w' hq => hdone fuel _ a' w' (by simpa using hls) (fun j hj => by
        by_cases hji : j = i
        · subst hji; simp [Array.getD_eq_getD_getElem?, hls, hil]
        · have := hall j (by omega)
          simp only [Array.getD_eq_getD_getElem?] at this ⊢
          rw [Array.getElem?_setIfInBounds_ne (fun e => hji e.symm)]
          exact this) hq) hst
      unfold wpOp
      simp only [ho]
      exact this
    have him' : i < m := by omega
    obtain ⟨f, hf, hf2⟩ := hrun i _ him' ho
    have hag : ∀ l, l ∈ f.r → stOf wss (fun j => listed.getD j true) m st l = stOf wss (fun _ => true) i st l := by
      intro l hl
      rw [← stOf_lt m (by omega)]
      refine stOf_agree _ (fun j hj hne => ?_)
      obtain ⟨g, hg, hgw⟩ := hfw j hj
      rw [← hgw]
      by_cases hji : j < i
      · have hbj : listed.getD j true = false := by
          cases h : listed.getD j true with
          | false => rfl
          | true => simp [h, hji] at hne
        obtain ⟨f', g', q1, q2, q3, q4, q5⟩ := hspec _ hcl i him' hed j hji hbj
        rw [hf] at q1; rw [hg] at q2
        obtain rfl := Option.some.inj q1
        obtain rfl := Option.some.inj q2
        exact disjoint_iff q4 hl
      · have hbj : listed.getD j true = true := by
          cases h : listed.getD j true with
          | true => rfl
          | false => simp [h, hji] at hne
        have hij : i < j := by
          rcases Nat.lt_or_ge i j with h | h
          · exact h
          · obtain rfl : i = j := by omega
            rw [hbi] at hbj; simp at hbj
        obtain ⟨g', f', q1, q2, q3, q4, q5⟩ := hspec _ hcl j hj (fun o ho' => hcl j o ho' hbj) i hij hbi
        rw [hg] at q1; rw [hf] at q2
        obtain rfl := Option.some.inj q1
        obtain rfl := Option.some.inj q2
        intro hin
        exact disjoint_iff q5 hin hl
    have hins : app (wss i) (stOf wss (fun j => listed.getD j true) m st) = stOf wss (fun j => (listed.setIfInBounds i true).getD j true) m st := by
      rw [stOf_insert hbi m him' (fun j hij hj hbj l hl => ?_)]
      · refine stOf_congr _ (fun j hj => ?_)
        by_cases hji : j = i
        · subst hji
          simp [Array.getD_eq_getD_getElem?, hls, hil]
        · rw [if_neg hji]
          simp only [Array.getD_eq_getD_getElem?, Array.getElem?_setIfInBounds_ne (fun e => hji e.symm)]
      · obtain ⟨g, hg, hgw⟩ := hfw j hj
        obtain ⟨f0, hf0, hfw0⟩ := hfw i him'
        obtain ⟨g', f', q1, q2, q3, q4, q5⟩ := hspec _ hcl j hj (fun o ho' => hcl j o ho' hbj) i hij hbi
        rw [hg] at q1; rw [hf0] at q2
        obtain rfl := Option.some.inj q1
        obtain rfl := Option.some.inj q2
        rw [← hgw]
        intro hin
        rw [← hfw0] at hl
        exact disjoint_iff q3 hin hl
    have hstp := operM_ok (Q := Q) (KC := fun a' w' => wpAny P .any ops Q fuel (listed.setIfInBounds i true) a' w') hr (fun t ht => hn i _ t ho ht) (hf2 _ hag (fun ws => ws = wss i) rfl) (fun ws Hd' a' w' hws hr' => by
      subst hws
      rw [hins] at hr'
      refine ih _ Hd' a' w' (by simpa using hls) (fun j o ho' hbj e he hbe => ?_) ?_ hr' ?_
      · by_cases hji : j = i
        · subst hji
          have h1 := hed o ho' e he hbe
          have hlt := hback j o ho' e he hbe
          simp only [Array.getD_eq_getD_getElem?] at h1 ⊢
          rw [Array.getElem?_setIfInBounds_ne (by omega)]
          exact h1
        · have h0 : listed.getD j true = true := by
            simp only [Array.getD_eq_getD_getElem?] at hbj ⊢
            rw [Array.getElem?_setIfInBounds_ne (fun e => hji e.symm)] at hbj
            exact hbj
          have h1 := hcl j o ho' h0 e he hbe
          by_cases hei : e.on = i
          · rw [hei]; simp [Array.getD_eq_getD_getElem?, hls, hil]
          · simp only [Array.getD_eq_getD_getElem?] at h1 ⊢
            rw [Array.getElem?_setIfInBounds_ne (fun e => hei e.symm)]
            exact h1
      · simp only [Array.getD_eq_getD_getElem?] at hlm ⊢
        rw [Array.getElem?_setIfInBounds_ne him]
        exact hlm
      · have hlt : (List.range ops.size).countP (fun j => !(listed.setIfInBounds i true).getD j true) < (List.range ops.size).countP (fun j => !listed.getD j true) := by
          refine countP_lt (i := i) (fun j hj => ?_) (by simp [hbi]) (by simp [Array.getD_eq_getD_getElem?, hls, hil]) _ hi1
          by_cases hji : j = i
          · subst hji; simp [hbi]
          · simp only [Array.getD_eq_getD_getElem?] at hj ⊢
            rw [Array.getElem?_setIfInBounds_ne (fun e => hji e.symm)] at hj
            exact hj
        omega)
    unfold wpOp
    simp only [ho]
    exact hstp
end
theorem Step.mono {P : Program} {ops : Array Oper} {o : Oper} {a : Act} {w : World} {KC KC' : Act → World → Prop} {Q : Exit → Act → World → Prop} (hk : ∀ a' w', KC a' w' → KC' a' w') (h : Step P ops o a w KC Q) : Step P ops o a w KC' Q := by
  unfold Step at *
  split at h
  · rename_i hw
    rw [if_pos hw]
    rcases h with h | h
    · exact .inl (Oper.wp_mono hk h)
    · exact .inr h
  · rename_i hw
    rw [if_neg hw]
    exact hk _ _ h
def updH (H : K → Option Hdr) (k : K) (h : Hdr) : K → Option Hdr := fun k' => if k' = k then some h else H k'
theorem updH_same {H : K → Option Hdr} {k : K} {h : Hdr} : updH H k h k = some h := by simp [updH]
theorem updH_ne {H : K → Option Hdr} {k k' : K} {h : Hdr} (e : k' ≠ k) : updH H k h k' = H k' := by simp [updH, e]
theorem Rel.slotY {cx : Cx} {n : Nat} {st : St} {Hd : K → Path → Hdr} {a : Act} {w : World} (h : Rel cx n st Hd a w) {t : Nat} {v v' : V} (hs : st (.s t) = .v v) (hv : VOK cx st Hd v' (a.tmps.getD t undef)) : Rel cx n (app [(.s t, .v v')] st) Hd a w := by
  refine ⟨h.defers, h.size, fun t' u hu => ?_, ?_, h.keep, fun k hh hk => ?_⟩
  · by_cases ht : t' = t
    · subst ht
      have : v' = u := by simpa [app, ovl] using hu
      subst this
      obtain ⟨h1, h2⟩ := h.slots t' v hs
      exact ⟨h1, hv.slot⟩
    · have : st (.s t') = .v u := by
        have hne : ¬ t = t' := fun e => ht e.symm
        simpa [app, ovl, hne, ht] using hu
      obtain ⟨h1, h2⟩ := h.slots t' u this
      exact ⟨h1, h2.slot⟩
  · have e : HeapOf (app [(.s t, .v v')] st) Hd = HeapOf st Hd := by
      funext i
      cases i with
      | inl k => simp only [HeapOf, known_slot]
      | inr _ => rfl
    rw [e]; exact h.heap
  · rw [known_slot]; exact h.hdr k hh hk
theorem Rel.down {w0 : World} {X : Nat → Prop} {H : K → Option Hdr} {k : K} {hd : Hdr} {n : Nat} {st : St} {Hd : K → Path → Hdr} {a : Act} {w : World} (hk : H k = none) (h : Rel ⟨w0, X, updH H k hd⟩ n st Hd a w) : Rel ⟨w0, X, H⟩ n st Hd a w := by
  refine ⟨h.defers, h.size, fun t v hv => ⟨(h.slots t v hv).1, (h.slots t v hv).2.cx⟩, ⟨h.heap.rows, h.heap.inj, h.heap.blk⟩, ⟨h.keep.os, h.keep.tape, h.keep.output, h.keep.size, h.keep.block⟩, fun k' h' hk' => ?_⟩
  refine h.hdr k' h' ?_
  by_cases e : k' = k
  · subst e
    have hk2 : H k' = some h' := hk'
    rw [hk] at hk2; simp at hk2
  · show updH H k hd k' = some h'
    rw [updH_ne e]; exact hk'
theorem raw_of {w0 : World} {X : Nat → Prop} {H : K → Option Hdr} {n : Nat} {st : St} {Hd : K → Path → Hdr} {a : Act} {w : World} (h : Rel ⟨w0, X, H⟩ n st Hd a w) {t j ver len : Nat} {k : K} {cs : List C} {e : Ent} (hs : st (.s t) = .v (.a cs)) (hc : cs[j]? = some (.r k ver [] 0 len)) (he : st (.k k) = .e e) (hl : e.es.length = len) (hnew : H k = none) :
    ∃ x, Raw (updH H k (Hd k [])) k x len ∧ Rel ⟨w0, X, updH H k (Hd k [])⟩ n (app [(.s t, .v (.a (cs.set j (.v x))))] st) Hd a w := by
  obtain ⟨hlt, hv⟩ := h.slots t _ hs
  generalize hy : a.tmps.getD t undef = y0 at hv
  cases hv with | a _ ys hle hcell =>
  have hjl := (List.getElem?_eq_some_iff.1 hc).1
  have hyj : ys[j]? = some (ys.getD j undef) := by simp [Array.getD_eq_getD_getElem?, Array.getElem?_eq_getElem (by omega : j < ys.size)]
  have hcj := hcell j _ _ hc hyj
  refine ⟨ys.getD j undef, ?_, ?_⟩
  · generalize ys.getD j undef = x at hcj
    cases hcj with | r _ _ _ _ _ ad cap hkn hlc hvv =>
    obtain ⟨q1, q2⟩ := hvv e.sz e.es (Hd k []) ⟨e, he, .inl rfl, rfl, rfl⟩
    refine ⟨ad, cap, Hd k [], rfl, updH_same, hlc, fun hc0 => ?_⟩
    obtain ⟨q3, q4⟩ := q2 hc0
    exact ⟨by rw [q3]; simp, by omega⟩
  · have hr1 : Rel ⟨w0, X, updH H k (Hd k [])⟩ n st Hd a w := by
      refine ⟨h.defers, h.size, fun t v hv => ⟨(h.slots t v hv).1, (h.slots t v hv).2.cx⟩, ⟨h.heap.rows, h.heap.inj, h.heap.blk⟩, ⟨h.keep.os, h.keep.tape, h.keep.output, h.keep.size, h.keep.block⟩, fun k' h' hk' => ?_⟩
      by_cases e1 : k' = k
      · subst e1
        have hk2 : updH H k' (Hd k' []) k' = some h' := hk'
        rw [updH_same] at hk2
        obtain rfl := Option.some.inj hk2
        exact ⟨by rw [he]; simp, fun e' he' => rfl⟩
      · have hk2 : updH H k (Hd k []) k' = some h' := hk'
        rw [updH_ne e1] at hk2
        exact h.hdr k' h' hk2
    refine hr1.slotY hs ?_
    rw [hy]
    refine .a _ _ (by rw [List.length_set]; exact hle) fun i c yy hi hyi => ?_
    by_cases hij : i = j
    · subst hij
      rw [List.getElem?_set_self hjl] at hi
      obtain rfl := Option.some.inj hi
      rw [hyj] at hyi
      obtain rfl := Option.some.inj hyi
      exact .v _
    · rw [List.getElem?_set_ne (fun e => hij e.symm)] at hi
      exact (hcell i c yy hi hyi).cx
def lastL (ops : List Oper) (m : Nat) : Bool := (match (predsM ops)[m]? with
  | some p => (List.range m).all fun j => p.testBit j
  | none => false) && (match ops[m]? with
  | some o => o.after.toList.all fun e => !Region.binds .any e || Nat.blt e.on m
  | none => false)
def indepL (ops : List Oper) (fs : List Foot) (m : Nat) : Bool := (List.range m).all (rowS ops fs [] (predsM ops))
section
variable {ops : Array Oper} {fs : List Foot} {m : Nat}
theorem lastL_spec (hl : lastL ops.toList m = true) : ∀ (b : Nat → Bool), Closed ops b → (∀ o, ops[m]? = some o → ∀ e ∈ o.after.toList, Region.binds .any e = true → b e.on = true) → ∀ j, j < m → b j = true := by
  intro b hb he j hj
  rw [lastL, Bool.and_eq_true] at hl
  obtain ⟨h1, h2⟩ := hl
  split at h1
  · rename_i p hp
    obtain ⟨l, hl1, hl2⟩ := predsM_get hp
    have h3 := List.all_eq_true.1 h1 j (List.mem_range.2 hj)
    rw [hl2 j] at h3
    split at h2
    · rename_i o ho
      have ho' : ops[m]? = some o := by simpa using ho
      exact preds_closed hb hl1 ho' (he o ho') j (by simpa using h3)
    · simp at h2
  · simp at h1
theorem indepL_back (hm : m + 1 = ops.size) (hl : lastL ops.toList m = true) (h : indepL ops.toList fs m = true) : ∀ i o, ops[i]? = some o → ∀ e ∈ o.after.toList, Region.binds .any e = true → e.on < i := by
  intro i o ho e he hbe
  have hi : i < ops.size := by rw [Array.getElem?_eq_some_iff] at ho; exact ho.1
  by_cases him : i = m
  · subst him
    rw [lastL, Bool.and_eq_true] at hl
    have h2 := hl.2
    split at h2
    · rename_i o' ho'
      have : o' = o := by rw [Array.getElem?_toList, ho] at ho'; exact (Option.some.inj ho').symm
      subst this
      have h3 := List.all_eq_true.1 h2 e he
      have h4 : Nat.blt e.on i = true := by simpa [hbe] using h3
      rwa [Nat.blt_eq] at h4
    · simp at h2
  · have h1 := List.all_eq_true.1 h i (List.mem_range.2 (by omega))
    unfold rowS at h1
    split at h1
    · rename_i f o' p hf ho' hp
      have : o' = o := by rw [Array.getElem?_toList, ho] at ho'; exact (Option.some.inj ho').symm
      subst this
      rw [Bool.and_eq_true] at h1
      have h2 := List.all_eq_true.1 h1.1 e he
      have h3 : Nat.blt e.on i = true := by simpa [hbe] using h2
      rwa [Nat.blt_eq] at h3
    · simp at h1
theorem indepL_spec (hm : m + 1 = ops.size) (h : indepL ops.toList fs m = true) : ∀ (b : Nat → Bool), Closed ops b → ∀ i, i < m → (∀ o, ops[i]? = some o → ∀ e ∈ o.after.toList, Region.binds .any e = true → b e.on = true) → ∀ j, j < i → b j = false → ∃ f g, fs[i]? = some f ∧ fs[j]? = some g ∧ disjoint f.w g.w = true ∧ disjoint f.r g.w = true ∧ disjoint f.w g.r = true := by
  intro b hb i hi he j hj hbj
  have h1 := List.all_eq_true.1 h i (List.mem_range.2 hi)
  unfold rowS at h1
  split at h1
  · rename_i f o p hf ho hp
    obtain ⟨l, hl1, hl2⟩ := predsM_get hp
    rw [Bool.and_eq_true] at h1
    have h2 := List.all_eq_true.1 h1.2 j (List.mem_range.2 hj)
    rw [Bool.or_eq_true] at h2
    rcases h2 with h2 | h2
    · have ho' : ops[i]? = some o := by simpa using ho
      rw [hl2 j] at h2
      have := preds_closed hb hl1 ho' (he o ho') j (by simpa using h2)
      rw [hbj] at this; simp at this
    · split at h2
      · rename_i g hg
        simp only [Bool.and_eq_true, Bool.or_eq_true] at h2
        refine ⟨f, g, hf, hg, h2.1.1, h2.1.2, ?_⟩
        rcases h2.2 with h3 | h3
        · exact h3
        · have := offIs_eq h3
          simp [offOf] at this
      · simp at h2
  · simp at h1
end
end Go.Abs
namespace Go.Abs.E
open Go Go.Abs
def INDL (os : List Oper) (m : Nat) (fs : List Foot) (_h : Hold (os, m, fs)) : Prop := indepL os fs m = true
theorem INDL.mk {os : List Oper} {m : Nat} {fs : List Foot} (h : indepL os fs m = true) : INDL os m fs () := h
def RAWI (H : K → Option Hdr) (t j : Nat) (k : K) (L : Ws) (G : (K → Option Hdr) → Ws → Prop) (_h : Hold G) : Prop :=
  ∃ cs ver len e, ofL L (.s t) = .v (.a cs) ∧ cs[j]? = some (.r k ver [] 0 len) ∧ ofL L (.k k) = .e e ∧ e.es.length = len ∧ ∀ (x : Value) (h : Hdr), Raw (updH H k h) k x len → G (updH H k h) ((.s t, .v (.a (cs.set j (.v x)))) :: L)
theorem RAWI.use {H : K → Option Hdr} {t j : Nat} {k : K} {L : Ws} {G : (K → Option Hdr) → Ws → Prop} {cs : List C} {ver len : Nat} {e : Ent} (h1 : ofL L (.s t) = .v (.a cs)) (h2 : cs[j]? = some (.r k ver [] 0 len)) (h3 : ofL L (.k k) = .e e) (h4 : e.es.length = len) (h5 : ∀ (x : Value) (h : Hdr), Raw (updH H k h) k x len → G (updH H k h) ((.s t, .v (.a (cs.set j (.v x)))) :: L)) : RAWI H t j k L G () := ⟨cs, ver, len, e, h1, h2, h3, h4, h5⟩
section
variable {H : K → Option Hdr} {P : Program} {md : Nat → Nat → Bool} {wr : Bool} {n np : Nat} {KK : KX} {L : Ws} {x y : Code}
theorem evh_ev {c : Code} (md : Nat → Nat → Bool) (wr : Bool) (hmix : P.follows .mixedOrders = true) (hd : dstsOK n c = true) (h : EV P md wr n np c L KK ()) : EVH H P n np c L KK () := by
  intro cx Hd a w hH h0 hr
  exact VC_ok hmix c L KK hd h cx Hd a w h0 hr
theorem evh_raw {id m : Nat} {ops : List Oper} {o : Oper} (md : Nat → Nat → Bool) (wr : Bool) (t j : Nat) (k : K) (hmix : P.follows .mixedOrders = true) (hm : ops.length = m + 1) (ho : ops[m]? = some o) (hd : (ops.all fun o => match o.dst with | some t => Nat.blt t n | none => true) = true) (hk1 : np ≤ k.1) (hnp : np ≤ n) (hk2 : k.1 < n) (hlast : lastL ops m = true)
    (h : RG P md wr true ops (ops.take m) L [] (fun L1 fs => INDL ops m fs () ∧ RAWI H t j k L1 (fun H' L2 => RM P md wr ops [o] L2 (fun L3 _ => EVH H' P n n y L3 KK ()) ()) ()) ()) : EVH H P n np (.seq (.region id ops.toArray true) y) L KK () := by
  intro cx Hd a w hH h0 hr
  have hn : DstOK n ops.toArray := DstOK.of (ops := ops.toArray) hd
  obtain ⟨wsl, fs, ⟨hi, hraw⟩, h2, h3, h4⟩ := RG_run (ops.take m) L [] h
  rw [List.nil_append] at hi
  have hi' : indepL ops fs m = true := hi
  have hlt : (ops.take m).length = m := by rw [List.length_take]; omega
  have h2' : wsl.length = m := by omega
  have hlen : fs.length = m := by
    have := congrArg List.length h3
    simp at this; omega
  have hsz : m + 1 = ops.toArray.size := by simp [hm]
  have hst : ∀ q, q ≤ m → stOf (fun j => wsl.getD j []) (fun _ => true) q (ofL L) = ofL (behL (wsl.take q) L) := fun q hq => stOf_behL q (by omega)
  have hend : stOf (fun j => wsl.getD j []) (fun _ => true) m (ofL L) = ofL (behL wsl L) := by
    rw [hst m (Nat.le_refl _), List.take_of_length_le (by omega)]
  refine wp_seq ?_
  refine wp_region_any hmix (any_okL (m := m) hn (wss := fun j => wsl.getD j []) (fs := fs) (md := md) (cx := cx) (st := ofL L) hsz hlen (lastL_spec (by simpa using hlast)) (indepL_spec hsz (by simpa using hi')) (indepL_back hsz (by simpa using hlast) (by simpa using hi')) (fun j hj => ?_) (fun j o1 hj ho1 => ?_) (fun Hd1 a1 w1 o1 ho1 hr1 => ?_) (fun o1 a1 w1 KC KC' hk hs => Step.mono hk hs) ops.toArray.size (Array.replicate ops.toArray.size false) Hd a w.drew (by simp) (fun i o1 ho1 hb => ?_) ?_ ?_ ?_)
  · have hf : fs[j]? = some fs[j] := List.getElem?_eq_getElem (by omega)
    have hw : wsl[j]? = some wsl[j] := List.getElem?_eq_getElem (by omega)
    refine ⟨_, hf, ?_⟩
    have h5 := congrArg (fun l => l[j]?) h3
    simp only [List.getElem?_map, hf, hw, Option.map_some, Option.some.injEq] at h5
    simp only [List.getD_eq_getElem?_getD, hw, Option.getD_some, h5]
  · have ho2 : (ops.take m)[j]? = some o1 := by
      rw [List.getElem?_take_of_lt hj]; simpa using ho1
    obtain ⟨f, ws, q1, q2, q3⟩ := h4 j o1 ho2
    refine ⟨f, q1, fun st' hs Kc hk => ?_⟩
    have := q3 st' (fun l hl => by rw [hs l hl, hst j (by omega)]) Kc (by simpa [List.getD_eq_getElem?_getD, q2] using hk)
    simpa using this
  · have ho2 : o1 = o := by
      have : ops[m]? = some o1 := by simpa using ho1
      rw [ho] at this; exact (Option.some.inj this).symm
    subst ho2
    rw [hend] at hr1
    obtain ⟨cs, ver, len, e, r1, r2, r3, r4, r5⟩ := hraw
    have hnone : cx.H0 k = none := by
      cases hq : cx.H0 k with
      | none => rfl
      | some hh => exact absurd (h0 k hh hq) (by omega)
    obtain ⟨w0, X, H0⟩ := cx
    have hH' : H0 = H := hH
    subst hH'
    obtain ⟨x, hx, hrx⟩ := raw_of hr1 r1 r2 r3 r4 hnone
    have h5 := r5 x _ hx
    have h6 : Go.Abs.RM P md wr ops [o1] ((.s t, .v (.a (cs.set j (.v x)))) :: behL wsl L) (fun L3 _ => EVH (updH H0 k (Hd1 k [])) P n n y L3 KK ()) := h5
    rw [Go.Abs.RM_cons] at h6
    rw [app_ofL] at hrx
    have h7 := operM2_wp (M.wq_wp (K := fun ws => Go.Abs.RM P md wr ops [] (ws ++ ((.s t, .v (.a (cs.set j (.v x)))) :: behL wsl L)) (fun L3 _ => EVH (updH H0 k (Hd1 k [])) P n n y L3 KK ())) _ [] h6)
    refine operM_ok (md := md) (ops := ops.toArray) hrx (fun t ht => hn m _ t ho1 ht) (by simpa using h7) (fun ws Hd' a' w' hw hr' => ?_)
    rw [app_ofL] at hr'
    have h8 : EVH (updH H0 k (Hd1 k [])) P n n y (ws ++ ((.s t, .v (.a (cs.set j (.v x)))) :: behL wsl L)) KK () := hw
    have h9 := h8 ⟨w0, X, updH H0 k (Hd1 k [])⟩ Hd' a' w' rfl (fun k' hh hk' => by
      by_cases e1 : k' = k
      · subst e1; exact hk2
      · have hk3 : updH H0 k (Hd1 k []) k' = some hh := hk'
        rw [updH_ne e1] at hk3
        exact Nat.lt_of_lt_of_le (h0 k' hh hk3) hnp) hr'
    refine wp_mono h9 ?_
    rintro e1 a2 w2 ⟨st2, Hd2, q1, q2⟩
    exact ⟨st2, Hd2, q1, q2.down hnone⟩
  · have hi2 : i < ops.toArray.size := by rw [Array.getElem?_eq_some_iff] at ho1; exact ho1.1
    have hi3 : i < ops.length := by simpa using hi2
    simp [Array.getD_eq_getD_getElem?, hi3] at hb
  · simp [Array.getD_eq_getD_getElem?, show m < ops.length by omega]
  · have : stOf (fun j => wsl.getD j []) (fun j => (Array.replicate ops.toArray.size false).getD j true) m (ofL L) = ofL L := by
      rw [stOf_congr (b' := fun _ => false) m (fun j hj => by simp [Array.getD_eq_getD_getElem?, show j < ops.length by omega])]
      exact stOf_none _
    rw [this]
    exact hr.drew
  · exact Nat.le_trans List.countP_le_length (by simp)
theorem Fn.evR {f : Nat} {fn : Func} {c : Code} {al fin res : List A} {rs : List ResultVar} {tys : List TypeId} {n : Nat} (hf : P.funcs[f]? = some fn) (hb : fn.body = some c) (hname : fn.name ≠ "runtime.NumGoroutine") (hnt : fn.ntmps = n) (hn : al.length ≤ n)
    (hr : fn.results.toList = rs) (ht : fn.resultTypes.toList = tys) (hfin : finOK fin = true) (hres : resOK res = true)
    (h : ∀ H : K → Option Hdr, EVH H P n al.length c (entryL 0 al) (fun e L => FK P rs tys al fin res e L ()) ()) : Go.Abs.Fn P f al fin res := by
  subst hnt
  refine Go.Abs.Fn.of hf hb hname hn hfin hres ?_
  rw [entrySt_eq]
  intro cx Hd a w h0 hr0
  refine wp_mono (h cx.H0 cx Hd a w rfl h0 hr0) ?_
  rintro e a' w' ⟨st', Hd', ⟨L', rfl, h1, h2⟩, h3⟩
  refine ⟨_, Hd', ⟨h1, ?_⟩, h3⟩
  unfold ExitOK
  rw [hr, ht]
  exact M.wq_wp _ _ h2
end
end Go.Abs.E

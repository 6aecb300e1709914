/- A small abstract machine over the kit's wp, part of it: states of slots and owned rows, and what each operation does to them. No condition. -/
import Derived.Test.YtlpbeejmefhpeaaGreatMachFour
set_option linter.unusedVariables false
set_option linter.unusedSimpArgs false
set_option linter.constructorNameAsVariable false
namespace Go.Abs
open Go
def E.argsH (P : Program) (md : Nat → Bool) (n : Nat) (ac : Acc) (tys : List TypeId) (vs : List V) (f : Acc → List A → M) (_ : E.Hold f) : M := argsA P md n ac tys vs f
def E.argH (own : Bool) (n : Nat) (ac : Acc) (ks : Option (List (Option Nat))) (v : V) (f : Acc → A → M) (_ : E.Hold f) : M := match v, ks with
  | .c c, some [kd] => cellA own n 0 ac kd c fun ac t => f ac (.c t)
  | .a cs, some ks => cellsA own n 0 ac ks cs fun ac ts => f ac (.a ts)
  | .f fn caps, _ => capsA ac.1 caps fun as => f ac (.f fn as)
  | _, _ => .bad
def E.cellsH (own : Bool) (n j : Nat) (ac : Acc) (ks : List (Option Nat)) (cs : List C) (f : Acc → List T → M) (_ : E.Hold f) : M := cellsA own n j ac ks cs f
def E.cellH (own : Bool) (n j : Nat) (ac : Acc) (kd : Option Nat) (c : C) (f : Acc → T → M) (_ : E.Hold f) : M := cellA own n j ac kd c f
theorem E.argsA_h (P : Program) (md : Nat → Bool) (n : Nat) (ac : Acc) (tys : List TypeId) (vs : List V) (f : Acc → List A → M) : argsA P md n ac tys vs f = E.argsH P md n ac tys vs f () := rfl
theorem E.argsH_nil (P : Program) (md : Nat → Bool) (n : Nat) (ac : Acc) (f : Acc → List A → M) : E.argsH P md n ac [] [] f () = f ac [] := rfl
theorem E.argsH_cons (P : Program) (md : Nat → Bool) (n : Nat) (ac : Acc) (ty : TypeId) (tys : List TypeId) (v : V) (vs : List V) (f : Acc → List A → M) : E.argsH P md n ac (ty :: tys) (v :: vs) f () = E.argH (md n) n ac (kinds P 12 ty) v (fun ac a => E.argsH P md (n + 1) ac tys vs (fun ac as => f ac (a :: as)) ()) () := by
  unfold E.argsH E.argH; rw [argsA]; rfl
theorem E.argH_c (own : Bool) (n : Nat) (ac : Acc) (kd : Option Nat) (c : C) (f : Acc → A → M) : E.argH own n ac (some [kd]) (.c c) f () = E.cellH own n 0 ac kd c (fun ac t => f ac (.c t)) () := rfl
theorem E.argH_a (own : Bool) (n : Nat) (ac : Acc) (ks : List (Option Nat)) (cs : List C) (f : Acc → A → M) : E.argH own n ac (some ks) (.a cs) f () = E.cellsH own n 0 ac ks cs (fun ac ts => f ac (.a ts)) () := rfl
theorem E.argH_f (own : Bool) (n : Nat) (ac : Acc) (ks : Option (List (Option Nat))) (fn : FuncId) (caps : List V) (f : Acc → A → M) : E.argH own n ac ks (.f fn caps) f () = capsA ac.1 caps (fun as => f ac (.f fn as)) := rfl
theorem E.cellsH_nil (own : Bool) (n j : Nat) (ac : Acc) (f : Acc → List T → M) : E.cellsH own n j ac [] [] f () = f ac [] := rfl
theorem E.cellsH_cons (own : Bool) (n j : Nat) (ac : Acc) (kd : Option Nat) (ks : List (Option Nat)) (c : C) (cs : List C) (f : Acc → List T → M) : E.cellsH own n j ac (kd :: ks) (c :: cs) f () = E.cellH own n j ac kd c (fun ac t => E.cellsH own n (j + 1) ac ks cs (fun ac ts => f ac (t :: ts)) ()) () := rfl
theorem E.cellH_v (own : Bool) (n j : Nat) (ac : Acc) (kd : Option Nat) (x : Value) (f : Acc → T → M) : E.cellH own n j ac kd (.v x) f () = f ac (.v x) := rfl
theorem E.cellH_b (n j : Nat) (ac : Acc) (kd : Option Nat) (sz : Nat) (es : List (List T)) (f : Acc → T → M) : E.cellH false n j ac kd (.b sz es) f () = f ac (.s false sz es) := rfl
theorem E.cellH_n (n j : Nat) (ac : Acc) (m : Nat) (f : Acc → T → M) : E.cellH false n j ac (some m) .n f () = f ac (.s false m []) := rfl
theorem E.cellH_nt (n j : Nat) (ac : Acc) (kd : Option Nat) (f : Acc → T → M) : E.cellH true n j ac kd .n f () = f ac (.v (.slice none 0 0)) := by cases kd <;> rfl
theorem E.cellH_u (n j : Nat) (ac : Acc) (kd : Option Nat) (f : Acc → T → M) : E.cellH false n j ac kd .u f () = f ac .d := rfl
theorem E.cellH_rt (n j : Nat) (ac : Acc) (kd : Option Nat) (k : K) (ver : Nat) (p : Path) (off len : Nat) (f : Acc → T → M) : E.cellH true n j ac kd (.r k ver p off len) f () = getR ac.1 k ver p fun e sz es => .req (off = 0 ∧ len = es.length ∧ ownEs es = true) (f (gone k p e :: ac.1, ⟨n, j, k, e.ver, p, sz, es.length⟩ :: ac.2) (.s true sz es)) := rfl
theorem E.cellH_rf (n j : Nat) (ac : Acc) (kd : Option Nat) (k : K) (ver : Nat) (p : Path) (off len : Nat) (f : Acc → T → M) : E.cellH false n j ac kd (.r k ver p off len) f () = getR ac.1 k ver p fun e sz es => .req (off + len ≤ es.length) (f ac (.s false sz (borEs ((es.drop off).take len)))) := rfl
end Go.Abs
namespace Go.Abs
open Go
def Raw (H : K → Option Hdr) (k : K) (x : Value) (len : Nat) : Prop :=
  ∃ (a : Option Addr) (cap : Nat) (h : Hdr), x = .slice a len cap ∧ H k = some h ∧ len ≤ cap ∧ (cap ≠ 0 → a = some ⟨h.b, h.o, none⟩ ∧ cap ≤ h.cap)
theorem Raw.one {H : K → Option Hdr} {k : K} {x : Value} {len : Nat} (h : Raw H k x len) : x.oneCell' = true := by
  obtain ⟨a, cap, hh, rfl, _⟩ := h
  rfl
def CVs (H : K → Option Hdr) (st : St) : List (Option K) → List C → List C → Prop
  | [], [], cs' => cs' = []
  | none :: ks, c :: cs, cs' => ∃ r, cs' = c :: r ∧ CVs H st ks cs r
  | some k :: ks, c :: cs, cs' => ∃ x e r, c = .v x ∧ st (.k k) = .e e ∧ Raw H k x e.es.length ∧ cs' = .r k 0 [] 0 e.es.length :: r ∧ CVs H st ks cs r
  | _, _, _ => False
theorem CVs_ok {cx : Cx} {n : Nat} {st : St} {Hd : K → Path → Hdr} {a : Act} {w : World} (h : Rel cx n st Hd a w) : ∀ (ks : List (Option K)) (cs cs' : List C), CVs cx.H0 st ks cs cs' → cs'.length = cs.length ∧ ∀ (i : Nat) (c c' : C) (y : Value), cs[i]? = some c → cs'[i]? = some c' → COK cx st Hd c y → COK cx st Hd c' y
  | [], [], cs', hh => by
    obtain rfl : cs' = [] := hh
    exact ⟨rfl, fun i c c' y h1 => by simp at h1⟩
  | none :: ks, c :: cs, cs', ⟨r, e, hr⟩ => by
    subst e
    obtain ⟨h1, h2⟩ := CVs_ok h ks cs r hr
    refine ⟨by simp [h1], fun i d d' y q1 q2 q3 => ?_⟩
    cases i with
    | zero => simp at q1 q2; subst q1; subst q2; exact q3
    | succ i => exact h2 i d d' y (by simpa using q1) (by simpa using q2) q3
  | some k :: ks, c :: cs, cs', ⟨x, e, r, e1, e2, e3, e4, hr⟩ => by
    subst e4; subst e1
    obtain ⟨h1, h2⟩ := CVs_ok h ks cs r hr
    refine ⟨by simp [h1], fun i d d' y q1 q2 q3 => ?_⟩
    cases i with
    | zero =>
      simp at q1 q2; subst q1; subst q2
      cases q3
      obtain ⟨ad, cap, hh, rfl, f1, f2, f3⟩ := e3
      refine .r _ _ _ _ _ _ _ ⟨by rw [e2]; simp, fun _ _ => Nat.zero_le _⟩ f2 (fun sz es hd hv => ?_)
      obtain ⟨e', g1, _, g2, g3⟩ := hv
      rw [e2] at g1
      obtain rfl := X.e.inj g1
      simp only [rowAt, Option.some.injEq, Prod.mk.injEq] at g2
      obtain ⟨rfl, rfl⟩ := g2
      have g4 := (h.hdr k hh f1).2 _ e2
      rw [g4] at g3
      subst g3
      refine ⟨by omega, fun hc => ?_⟩
      obtain ⟨f4, f5⟩ := f3 hc
      exact ⟨by rw [f4]; simp, by omega⟩
    | succ i => exact h2 i d d' y (by simpa using q1) (by simpa using q2) q3
  | [], _ :: _, _, hh => hh.elim
  | none :: _, [], _, hh => hh.elim
  | some _ :: _, [], _, hh => hh.elim
theorem known_slot {st : St} {t : Nat} {v : V} {k : K} : app [(.s t, .v v)] st (.k k) = st (.k k) := by
  simp [app, ovl]
theorem COK.slot {cx : Cx} {st : St} {Hd : K → Path → Hdr} {t : Nat} {v' : V} {c : C} {y : Value} (h : COK cx st Hd c y) : COK cx (app [(.s t, .v v')] st) Hd c y := by
  refine h.mono (fun k ver hk => ?_) (fun k ver p sz es hd hk hv => ?_)
  · unfold known at *; rw [known_slot]; exact hk
  · refine ⟨es, ?_, rfl⟩
    unfold valid at *; rw [known_slot] at hv; exact hv
theorem VOK.slot {cx : Cx} {st : St} {Hd : K → Path → Hdr} {t : Nat} {v' : V} {v : V} {y : Value} (h : VOK cx st Hd v y) : VOK cx (app [(.s t, .v v')] st) Hd v y := by
  refine h.mono (fun k ver hk => ?_) (fun k ver p sz es hd hk hv => ?_)
  · unfold known at *; rw [known_slot]; exact hk
  · refine ⟨es, ?_, rfl⟩
    unfold valid at *; rw [known_slot] at hv; exact hv
def sameV : V → V → List C → List C → Prop
  | .c c, .c c', cs, cs' => cs = [c] ∧ cs' = [c']
  | .a ds, .a ds', cs, cs' => cs = ds ∧ cs' = ds'
  | _, _, _, _ => False
theorem Rel.slot {cx : Cx} {n : Nat} {st : St} {Hd : K → Path → Hdr} {a : Act} {w : World} (h : Rel cx n st Hd a w) {t : Nat} {v v' : V} (hs : st (.s t) = .v v) (hv : ∀ y, VOK cx st Hd v y → VOK cx st Hd v' y) : Rel cx n (app [(.s t, .v v')] st) Hd a w := by
  refine ⟨h.defers, h.size, fun t' u hu => ?_, ?_, h.keep, fun k hh hk => ?_⟩
  · by_cases ht : t' = t
    · subst ht
      have : v' = u := by simpa [app, ovl] using hu
      subst this
      obtain ⟨h1, h2⟩ := h.slots t' v hs
      exact ⟨h1, (hv _ h2).slot⟩
    · have : st (.s t') = .v u := by
        have hne : ¬ t = t' := fun e => ht e.symm
        simpa [app, ovl, hne, ht] using hu
      obtain ⟨h1, h2⟩ := h.slots t' u this
      exact ⟨h1, h2.slot⟩
  · have e : HeapOf (app [(.s t, .v v')] st) Hd = HeapOf st Hd := by
      funext i
      cases i with
      | inl k => simp only [HeapOf, known_slot]
      | inr _ => rfl
    rw [e]; exact h.heap
  · rw [known_slot]; exact h.hdr k hh hk
theorem Rel.raw {cx : Cx} {n : Nat} {st : St} {Hd : K → Path → Hdr} {a : Act} {w : World} (h : Rel cx n st Hd a w) {t : Nat} {v v' : V} {ks : List (Option K)} {cs cs' : List C} (hs : st (.s t) = .v v) (hsm : sameV v v' cs cs') (hc : CVs cx.H0 st ks cs cs') : Rel cx n (app [(.s t, .v v')] st) Hd a w := by
  obtain ⟨hl, hcc⟩ := CVs_ok h ks cs cs' hc
  refine h.slot hs fun y hy => ?_
  unfold sameV at hsm
  split at hsm
  · obtain ⟨rfl, rfl⟩ := hsm
    cases hy with | c _ _ h1 => exact .c _ _ (hcc 0 _ _ y rfl rfl h1)
  · obtain ⟨rfl, rfl⟩ := hsm
    cases hy with | a _ ys h1 h2 =>
    refine .a _ _ (by omega) fun i c y hi hy => ?_
    have hil := (List.getElem?_eq_some_iff.1 hi).1
    exact hcc i _ c y (List.getElem?_eq_getElem (by omega)) hi (h2 i _ y (List.getElem?_eq_getElem (by omega)) hy)
  · exact hsm.elim
def AWh (H : K → Option Hdr) (P : Program) (n np : Nat) (c : Code) (st : St) (Q : Exit → St → Prop) : Prop :=
  ∀ (cx : Cx) (Hd : K → Path → Hdr) (a : Act) (w : World), cx.H0 = H → (∀ k h, cx.H0 k = some h → k.1 < np) → Rel cx n st Hd a w → c.wp P (fun e a' w' => ∃ st' Hd', Q e st' ∧ Rel cx n st' Hd' a' w') a w
section
variable {H : K → Option Hdr} {P : Program} {md : Nat → Nat → Bool} {wr : Bool} {n np : Nat}
theorem wpList_step {ops : Array Oper} {Q : Exit → Act → World → Prop} {o : Oper} {rest : List Oper} {a : Act} {w : World} (h : Step P ops o a w (wpList P ops Q rest) Q) : wpList P ops Q (o :: rest) a w := h
theorem RM_list {ops : List Oper} {cx : Cx} {Q : Exit → Act → World → Prop} {rest2 : List Oper} {KK : Ws → List Foot → Prop} : ∀ (rest : List Oper), (rest.all fun o => match o.dst with | some t => Nat.blt t n | none => true) = true → ∀ {L : Ws} {Hd : K → Path → Hdr} {a : Act} {w : World}, Rel cx n (ofL L) Hd a w → RM P md wr ops rest L KK →
    (∀ L' Hd' a' w', KK L' [] → Rel cx n (ofL L') Hd' a' w' → wpList P ops.toArray Q rest2 a' w') → wpList P ops.toArray Q (rest ++ rest2) a w
  | [], hd, L, Hd, a, w, hr, h, hk => hk L Hd a w h hr
  | o :: rest, hd, L, Hd, a, w, hr, h, hk => by
    simp only [List.all_cons, Bool.and_eq_true] at hd
    rw [RM_cons] at h
    refine wpList_step ?_
    have h1 := operM2_wp (M.wq_wp (K := fun ws => RM P md wr ops rest (ws ++ L) KK) _ [] h)
    refine operM_ok (md := md) (ops := ops.toArray) hr (fun t ht => ?_) (by simpa using h1) (fun ws Hd' a' w' hw hr' => ?_)
    · have := hd.1; rw [ht] at this; exact Nat.blt_eq ▸ this
    · rw [app_ofL] at hr'
      exact RM_list rest hd.2 hr' hw hk
end
end Go.Abs
namespace Go.Abs.E
open Go Go.Abs
def CVT (H : K → Option Hdr) (t : Nat) (ks : List (Option K)) (L : Ws) (G : Ws → Prop) (_h : Hold G) : Prop :=
  ∃ v v' cs cs', ofL L (.s t) = .v v ∧ sameV v v' cs cs' ∧ CVs H (ofL L) ks cs cs' ∧ G ((.s t, .v v') :: L)
def EVH (H : K → Option Hdr) (P : Program) (n np : Nat) (c : Code) (L : Ws) (KK : KX) (_h : Hold (H, P, n, np, c, KK)) : Prop :=
  AWh H P n np c (ofL L) fun e st => ∃ L', st = ofL L' ∧ KK e L'
section
variable {H : K → Option Hdr} {P : Program} {md : Nat → Nat → Bool} {wr : Bool} {n np : Nat} {KK : KX} {L : Ws} {x y : Code}
theorem evh_seq (h : EVH H P n np x L (fun e L' => match e with | .normal => EVH H P n np y L' KK () | e => KK e L') ()) : EVH H P n np (.seq x y) L KK () := by
  intro cx Hd a w hH h0 hr
  refine wp_seq (wp_mono (h cx Hd a w hH h0 hr) ?_)
  rintro e a' w' ⟨st', Hd', ⟨L', rfl, h1⟩, h2⟩
  cases e with
  | normal => exact h1 cx Hd' a' w' hH h0 h2
  | _ => exact ⟨_, Hd', ⟨L', rfl, h1⟩, h2⟩
theorem evh_ret (h : KK .ret L) : EVH H P n np .ret L KK () := fun cx Hd a w _ _ hr => wp_ret ⟨_, Hd, ⟨L, rfl, h⟩, hr⟩
theorem evh_reg {id : Nat} {ops : List Oper} (md : Nat → Nat → Bool) (wr : Bool) (hd : (ops.all fun o => match o.dst with | some t => Nat.blt t n | none => true) = true) (h : RM P md wr ops ops L (fun L' _ => KK .normal L') ()) : EVH H P n np (.region id ops.toArray false) L KK () := by
  intro cx Hd a w hH h0 hr
  refine wp_region_list ?_
  have := RM_list (rest2 := []) (Q := fun e a' w' => ∃ st' Hd', (∃ L', st' = ofL L' ∧ KK e L') ∧ Rel cx n st' Hd' a' w') ops hd hr h (fun L' Hd' a' w' hk hr' => ⟨_, Hd', ⟨L', rfl, hk⟩, hr'⟩)
  simpa using this
theorem evh_conv {id : Nat} {ops : List Oper} (md : Nat → Nat → Bool) (wr : Bool) (m t : Nat) (ks : List (Option K)) (hd : (ops.all fun o => match o.dst with | some t => Nat.blt t n | none => true) = true)
    (h : RM P md wr ops (ops.take m) L (fun L1 _ => CVT H t ks L1 (fun L2 => RM P md wr ops (ops.drop m) L2 (fun L' _ => KK .normal L') ()) ()) ()) : EVH H P n np (.region id ops.toArray false) L KK () := by
  intro cx Hd a w hH h0 hr
  refine wp_region_list ?_
  have hda : ∀ o ∈ ops, (match o.dst with | some t => Nat.blt t n | none => true) = true := List.all_eq_true.1 hd
  have := RM_list (rest2 := ops.drop m) (Q := fun e a' w' => ∃ st' Hd', (∃ L', st' = ofL L' ∧ KK e L') ∧ Rel cx n st' Hd' a' w') (ops.take m) (List.all_eq_true.2 fun o ho => hda o (List.mem_of_mem_take ho)) hr h (fun L1 Hd1 a1 w1 hk hr1 => ?_)
  · simpa using this
  · obtain ⟨v, v', cs, cs', c1, c2, c3, c4⟩ := hk
    subst hH
    have hr2 := hr1.raw c1 c2 c3
    rw [app_ofL] at hr2
    have := RM_list (rest2 := []) (Q := fun e a' w' => ∃ st' Hd', (∃ L', st' = ofL L' ∧ KK e L') ∧ Rel cx n st' Hd' a' w') (ops.drop m) (List.all_eq_true.2 fun o ho => hda o (List.mem_of_mem_drop ho)) hr2 c4 (fun L' Hd' a' w' hk hr' => ⟨_, Hd', ⟨L', rfl, hk⟩, hr'⟩)
    simpa using this
def rawCs (rv : Nat → Value) : Nat → List T → List C
  | _, [] => []
  | j, .s true _ _ :: ts => .v (rv j) :: rawCs rv (j + 1) ts
  | j, t :: ts => entryC 0 j t :: rawCs rv (j + 1) ts
theorem rawCs_get (rv : Nat → Value) : ∀ (ts : List T) (j i : Nat), (rawCs rv j ts)[i]? = (ts[i]?).map fun t => match t with | .s true _ _ => C.v (rv (j + i)) | t => entryC 0 (j + i) t
  | [], j, i => by simp [rawCs]
  | t :: ts, j, 0 => by
    cases t with
    | s own sz es => cases own <;> simp [rawCs]
    | _ => simp [rawCs]
  | t :: ts, j, i + 1 => by
    have := rawCs_get rv ts (j + 1) i
    rw [show j + 1 + i = j + (i + 1) by omega] at this
    cases t with
    | s own sz es => cases own <;> simpa [rawCs] using this
    | _ => simpa [rawCs] using this
theorem rawCs_len (rv : Nat → Value) : ∀ (ts : List T) (j : Nat), (rawCs rv j ts).length = ts.length
  | [], j => rfl
  | t :: ts, j => by
    have := rawCs_len rv ts (j + 1)
    cases t with
    | s own sz es => cases own <;> simpa [rawCs] using this
    | _ => simpa [rawCs] using this
theorem Fn.evH {f : Nat} {fn : Func} {c : Code} {ts : List T} {al fin res : List A} {rs : List ResultVar} {tys : List TypeId} {n : Nat} (hf : P.funcs[f]? = some fn) (hb : fn.body = some c) (hname : fn.name ≠ "runtime.NumGoroutine") (hnt : fn.ntmps = n) (hn : al.length + 1 ≤ n)
    (hr : fn.results.toList = rs) (ht : fn.resultTypes.toList = tys) (hfin : finOK fin = true) (hres : resOK res = true)
    (h : ∀ (H : K → Option Hdr) (rv : Nat → Value), (∀ j sz es, ts[j]? = some (.s true sz es) → Raw H (0, j) (rv j) es.length) →
      EVH H P n (al.length + 1) c ((.s 0, .v (.a (rawCs rv 0 ts))) :: entryL 0 (.a ts :: al)) (fun e L => FK P rs tys (.a ts :: al) fin res e L ()) ()) : Go.Abs.Fn P f (.a ts :: al) fin res := by
  subst hnt
  refine Go.Abs.Fn.ofX hf hb hname hn hfin hres fun cx Hd a w h0 hH hr0 => ?_
  -- the first argument's cells
  obtain ⟨hlt, hv0⟩ := hr0.slots 0 (.a (entryCs 0 0 ts)) rfl
  generalize hy : a.tmps.getD 0 undef = y0 at hv0
  cases hv0 with | a _ ys hl hcell =>
  have hcl : (entryCs 0 0 ts).length = ts.length := by
    have : ∀ (ts : List T) (j : Nat), (entryCs 0 j ts).length = ts.length := fun ts => by
      induction ts with
      | nil => intro j; rfl
      | cons t ts ih => intro j; simp [entryCs, ih]
    exact this ts 0
  have hraw : ∀ j sz es, ts[j]? = some (.s true sz es) → Raw cx.H0 (0, j) (ys.getD j undef) es.length := by
    intro j sz es hj
    have hjl := (List.getElem?_eq_some_iff.1 hj).1
    have hyj : ys[j]? = some (ys.getD j undef) := by simp [Array.getD_eq_getD_getElem?, Array.getElem?_eq_getElem (by omega : j < ys.size)]
    have hc := hcell j (.r (0, j) 0 [] 0 es.length) _ (by rw [entryCs_get, hj]; simp [entryC]) hyj
    have hco : cellOf (.a ts :: al) (0, j) = some (sz, es) := by simp [cellOf, A.ts, hj]
    have h1 := hH (0, j) (by rw [hco]; rfl)
    generalize ys.getD j undef = y at hc
    cases hc with | r _ _ _ _ _ ad cap hk hle hv =>
    obtain ⟨q1, q2⟩ := hv sz es (Hd (0, j) []) ⟨⟨0, sz, es⟩, by simp [entrySt, hco], .inl rfl, rfl, rfl⟩
    refine ⟨ad, cap, Hd (0, j) [], rfl, h1, hle, fun hc => ?_⟩
    obtain ⟨q3, q4⟩ := q2 hc
    exact ⟨by rw [q3]; simp, by omega⟩
  have hr1 : Rel cx fn.ntmps (ofL ((.s 0, .v (.a (rawCs (fun j => ys.getD j undef) 0 ts))) :: entryL 0 (.a ts :: al))) Hd a w := by
    have h2 : Rel cx fn.ntmps (app [(.s 0, .v (.a (rawCs (fun j => ys.getD j undef) 0 ts)))] (entrySt (.a ts :: al))) Hd a w := by
      obtain ⟨r1, r2, r3, r4, r5, r6⟩ := hr0
      refine ⟨r1, r2, fun t' u hu => ?_, ?_, r5, fun k hh hk => ?_⟩
      · by_cases ht : t' = 0
        · subst ht
          have : V.a (rawCs (fun j => ys.getD j undef) 0 ts) = u := by simpa [app, ovl] using hu
          subst this
          refine ⟨hlt, ?_⟩
          rw [hy]
          refine .a _ _ ?_ fun i c y hi hyi => ?_
          · rw [rawCs_len]; omega
          · rw [rawCs_get] at hi
            cases hti : ts[i]? with
            | none => rw [hti] at hi; simp at hi
            | some t =>
              rw [hti] at hi
              have hyi2 : ys.getD i undef = y := by simp [Array.getD_eq_getD_getElem?, hyi]
              have hold := hcell i (entryC 0 (0 + i) t) y (by rw [entryCs_get, hti]; rfl) hyi
              cases t with
              | s own sz es =>
                cases own with
                | true =>
                  simp only [Option.map_some, Option.some.injEq, Nat.zero_add, hyi2] at hi
                  subst hi; exact .v _
                | false =>
                  simp only [Option.map_some, Option.some.injEq] at hi
                  subst hi; exact hold.slot
              | v x => simp only [Option.map_some, Option.some.injEq] at hi; subst hi; exact hold.slot
              | d => simp only [Option.map_some, Option.some.injEq] at hi; subst hi; exact hold.slot
        · have hne : ¬ 0 = t' := fun e => ht e.symm
          have : entrySt (.a ts :: al) (.s t') = .v u := by simpa [app, ovl, hne, ht] using hu
          obtain ⟨h1, h2⟩ := r3 t' u this
          exact ⟨h1, h2.slot⟩
      · have e : HeapOf (app [(.s 0, .v (.a (rawCs (fun j => ys.getD j undef) 0 ts)))] (entrySt (.a ts :: al))) Hd = HeapOf (entrySt (.a ts :: al)) Hd := by
          funext i
          cases i with
          | inl k => simp only [HeapOf, known_slot]
          | inr _ => rfl
        rw [e]; exact r4
      · rw [known_slot]; exact r6 k hh hk
    rw [entrySt_eq, app_ofL] at h2
    exact h2
  refine wp_mono (h cx.H0 (fun j => ys.getD j undef) hraw cx Hd a w rfl h0 hr1) ?_
  rintro e a' w' ⟨st', Hd', ⟨L', rfl, h1, h2⟩, h3⟩
  refine ⟨_, Hd', ⟨h1, ?_⟩, h3⟩
  unfold ExitOK
  rw [hr, ht]
  exact M.wq_wp _ _ h2
end
end Go.Abs.E
namespace Go.Abs.E
open Go Go.Abs
section
variable {H : K → Option Hdr} {L : Ws} {G : Ws → Prop} {t : Nat}
theorem CVT.use1 {k : K} {x : Value} {e : Ent} (hx : ofL L (.s t) = .v (.c (.v x))) (he : ofL L (.k k) = .e e) (hr : Raw H k x e.es.length) (hg : G ((.s t, .v (.c (.r k 0 [] 0 e.es.length))) :: L)) : CVT H t [some k] L G () :=
  ⟨.c (.v x), .c (.r k 0 [] 0 e.es.length), [.v x], [.r k 0 [] 0 e.es.length], hx, ⟨rfl, rfl⟩, ⟨x, e, [], rfl, he, hr, rfl, rfl⟩, hg⟩
theorem CVT.useA {ks : List (Option K)} {cs cs' : List C} (hx : ofL L (.s t) = .v (.a cs)) (hc : CVs H (ofL L) ks cs cs') (hg : G ((.s t, .v (.a cs')) :: L)) : CVT H t ks L G () :=
  ⟨.a cs, .a cs', cs, cs', hx, ⟨rfl, rfl⟩, hc, hg⟩
theorem rawCs_nil {rv : Nat → Value} {j : Nat} : rawCs rv j [] = [] := rfl
theorem rawCs_s {rv : Nat → Value} {j sz : Nat} {es : List (List T)} {ts : List T} : rawCs rv j (.s true sz es :: ts) = .v (rv j) :: rawCs rv (j + 1) ts := rfl
theorem rawCs_v {rv : Nat → Value} {j : Nat} {x : Value} {ts : List T} : rawCs rv j (.v x :: ts) = .v x :: rawCs rv (j + 1) ts := rfl
theorem ofL_eq : ofL = ofL := rfl
theorem take_s {α : Type} {n : Nat} {x : α} {l : List α} : List.take (n + 1) (x :: l) = x :: List.take n l := rfl
end
end Go.Abs.E
namespace Go.Abs.E
open Go Go.Abs
def strB (P : Program) (t : TypeId) : Bool := match P.underlying t with
  | some (.struct _) => true
  | _ => false
def cellB (P : Program) (t : TypeId) : Bool := match P.underlying t with
  | some (.int _) => true
  | some .bool => true
  | some (.slice _) => true
  | _ => false
theorem agg_in {P : Program} {w : World} {r : Reach} {base : Nat} {t : TypeId} {v : Value} (hs : strB P t = true) (h : Value.okWide P w r base t v) : ∃ c, v = .agg c := by
  unfold strB at hs
  unfold Value.okWide at h
  split at hs
  · rename_i fs hu
    simp only [hu] at h
    obtain ⟨cs, e, _⟩ := h
    exact ⟨cs, e⟩
  · simp at hs
theorem cell_in {P : Program} {w : World} {r : Reach} {base : Nat} {t : TypeId} {v : Value} (hs : cellB P t = true) (h : Value.okWide P w r base t v) : ∀ c, v ≠ .agg c := by
  rintro c rfl
  unfold cellB at hs
  unfold Value.okWide at h
  split at hs
  all_goals first
    | (rename_i hu; simp [hu, Cell.okWide, Cell.ok] at h; done)
    | (rename_i x hu; simp [hu, Cell.okWide, Cell.ok] at h; done)
    | (simp at hs)
end Go.Abs.E
namespace Go.Abs
open Go
section
variable {P : Program} {md : Nat → Nat → Bool} {cx : Cx} {n np : Nat} {st : St} {ops : Array Oper} {Q : Exit → Act → World → Prop}
end
theorem Step.mono {P : Program} {ops : Array Oper} {o : Oper} {a : Act} {w : World} {KC KC' : Act → World → Prop} {Q : Exit → Act → World → Prop} (hk : ∀ a' w', KC a' w' → KC' a' w') (h : Step P ops o a w KC Q) : Step P ops o a w KC' Q := by
  unfold Step at *
  split at h
  · rename_i hw
    rw [if_pos hw]
    rcases h with h | h
    · exact .inl (Oper.wp_mono hk h)
    · exact .inr h
  · rename_i hw
    rw [if_neg hw]
    exact hk _ _ h
def updH (H : K → Option Hdr) (k : K) (h : Hdr) : K → Option Hdr := fun k' => if k' = k then some h else H k'
theorem updH_ne {H : K → Option Hdr} {k k' : K} {h : Hdr} (e : k' ≠ k) : updH H k h k' = H k' := by simp [updH, e]
theorem Rel.down {w0 : World} {X : Nat → Prop} {H : K → Option Hdr} {k : K} {hd : Hdr} {n : Nat} {st : St} {Hd : K → Path → Hdr} {a : Act} {w : World} (hk : H k = none) (h : Rel ⟨w0, X, updH H k hd⟩ n st Hd a w) : Rel ⟨w0, X, H⟩ n st Hd a w := by
  refine ⟨h.defers, h.size, fun t v hv => ⟨(h.slots t v hv).1, (h.slots t v hv).2.cx⟩, ⟨h.heap.rows, h.heap.inj, h.heap.blk⟩, ⟨h.keep.os, h.keep.tape, h.keep.output, h.keep.size, h.keep.block⟩, fun k' h' hk' => ?_⟩
  refine h.hdr k' h' ?_
  by_cases e : k' = k
  · subst e
    have hk2 : H k' = some h' := hk'
    rw [hk] at hk2; simp at hk2
  · show updH H k hd k' = some h'
    rw [updH_ne e]; exact hk'
def indepL (ops : List Oper) (fs : List Foot) (m : Nat) : Bool := (List.range m).all (rowS ops fs [] (predsM ops))
section
variable {ops : Array Oper} {fs : List Foot} {m : Nat}
end
end Go.Abs
namespace Go.Abs.E
open Go Go.Abs
def INDL (os : List Oper) (m : Nat) (fs : List Foot) (_h : Hold (os, m, fs)) : Prop := indepL os fs m = true
theorem INDL.mk {os : List Oper} {m : Nat} {fs : List Foot} (h : indepL os fs m = true) : INDL os m fs () := h
def RAWI (H : K → Option Hdr) (t j : Nat) (k : K) (L : Ws) (G : (K → Option Hdr) → Ws → Prop) (_h : Hold G) : Prop :=
  ∃ cs ver len e, ofL L (.s t) = .v (.a cs) ∧ cs[j]? = some (.r k ver [] 0 len) ∧ ofL L (.k k) = .e e ∧ e.es.length = len ∧ ∀ (x : Value) (h : Hdr), Raw (updH H k h) k x len → G (updH H k h) ((.s t, .v (.a (cs.set j (.v x)))) :: L)
theorem RAWI.use {H : K → Option Hdr} {t j : Nat} {k : K} {L : Ws} {G : (K → Option Hdr) → Ws → Prop} {cs : List C} {ver len : Nat} {e : Ent} (h1 : ofL L (.s t) = .v (.a cs)) (h2 : cs[j]? = some (.r k ver [] 0 len)) (h3 : ofL L (.k k) = .e e) (h4 : e.es.length = len) (h5 : ∀ (x : Value) (h : Hdr), Raw (updH H k h) k x len → G (updH H k h) ((.s t, .v (.a (cs.set j (.v x)))) :: L)) : RAWI H t j k L G () := ⟨cs, ver, len, e, h1, h2, h3, h4, h5⟩
section
variable {H : K → Option Hdr} {P : Program} {md : Nat → Nat → Bool} {wr : Bool} {n np : Nat} {KK : KX} {L : Ws} {x y : Code}
end
end Go.Abs.E

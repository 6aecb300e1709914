/- A small abstract machine over the kit's wp, part of it: states of slots and owned rows, and what each operation does to them. No condition. -/
import Derived.Test.YtijifinpifomcaaGreatMachFour
set_option linter.unusedVariables false
set_option linter.unusedSimpArgs false
set_option linter.constructorNameAsVariable false
set_option linter.unusedSectionVars false
namespace Go.Abs
open Go
variable [Amb]
theorem rowAt_take {sz : Nat} {es : List (List T)} {m : Nat} {x : Nat × Nat} {q : Path} {v : Nat × List (List T)} (h : rowAt sz (es.take m) (x :: q) = some v) : rowAt sz es (x :: q) = some v := by
  obtain ⟨i, j⟩ := x
  simp only [rowAt] at h ⊢
  have hc : ∀ t, cellAt (es.take m) i j = some t → cellAt es i j = some t := by
    intro t ht
    unfold cellAt at ht ⊢
    rw [List.getElem?_take] at ht
    split at ht
    · exact ht
    · simp at ht
  cases h1 : cellAt (es.take m) i j with
  | none => simp [h1] at h
  | some t => rw [h1] at h; rw [hc t h1]; exact h
theorem HeapOK.cut {cx : Cx} {H H' : Heap} {w : World} (hk : HeapOK cx H w) {i : Ix} {r : HRow} {m : Nat} (hi : H i = some r) (hH : ∀ j s, H' j = some s → j = i ∧ s = ⟨r.sz, r.es.take m, r.hd⟩) : HeapOK cx H' w := by
  have key : ∀ {j p sz es g}, Heap.at H' j p sz es g → ∃ es0, H.at j p sz es0 g := by
    rintro j p sz es g ⟨s, hs, hp, hg⟩
    obtain ⟨rfl, rfl⟩ := hH j s hs
    cases p with
    | nil =>
      simp only [rowAt, Option.some.injEq, Prod.mk.injEq] at hp
      obtain ⟨rfl, rfl⟩ := hp
      exact ⟨r.es, r, hi, rfl, hg⟩
    | cons x q => exact ⟨es, r, hi, rowAt_take hp, hg⟩
  refine ⟨fun j s p sz es hs hp => ?_, fun j p sz es g j' p' sz' es' g' h1 h2 => ?_, fun j p sz es g h1 => ?_⟩
  · obtain ⟨rfl, rfl⟩ := hH j s hs
    cases p with
    | nil =>
      simp only [rowAt, Option.some.injEq, Prod.mk.injEq] at hp
      obtain ⟨rfl, rfl⟩ := hp
      have hrow := hk.rows j r [] r.sz r.es hi rfl
      refine ⟨Nat.le_trans (by simp; omega) hrow.1, fun hc => ?_⟩
      obtain ⟨c, E, h1, h2, h3⟩ := hrow.2 hc
      refine ⟨c, E, h1, h2, fun x e he => h3 x e ?_⟩
      rw [List.getElem?_take] at he
      split at he
      · exact he
      · simp at he
    | cons x q => exact hk.rows j r (x :: q) sz es hi (rowAt_take hp)
  · obtain ⟨e0, k1⟩ := key h1
    obtain ⟨e1, k2⟩ := key h2
    exact hk.inj _ _ _ _ _ _ _ _ _ _ k1 k2
  · obtain ⟨e0, k1⟩ := key h1
    exact hk.blk _ _ _ _ _ k1
def cutSt (t : Nat) (v : V) (k : K) (x : X) (st : St) : St := fun
  | .s t' => if t' = t then .v v else .none
  | .k k' => if k' = k then x else match st (.k k') with
    | .none => .none
    | _ => .gone
theorem Rel.cut {cx : Cx} {n : Nat} {st : St} {Hd : K → Path → Hdr} {a : Act} {w : World} (h : Rel cx n st Hd a w) {t ver m : Nat} {k : K} {e : Ent} (hs : st (.s t) = .v (.c (.r k ver [] 0 m))) (hk : st (.k k) = .e e) (hm : m ≤ e.es.length) :
    Rel cx n (cutSt t (.c (.r k 0 [] 0 m)) k (.e ⟨0, e.sz, e.es.take m⟩) st) Hd a w := by
  refine ⟨h.defers, h.size, fun t' v hv => ?_, ?_, h.keep, fun k' h0 hk' => ?_, h.amb⟩
  · simp only [cutSt] at hv
    split at hv
    · rename_i ht
      subst ht
      obtain rfl := X.v.inj hv
      obtain ⟨h1, h2⟩ := h.slots t' _ hs
      refine ⟨h1, ?_⟩
      generalize a.tmps.getD t' undef = y at h2
      cases h2 with | c _ _ hc =>
      cases hc with | r _ _ _ _ _ ad cap hkn hl hva =>
      refine .c _ _ (.r _ _ _ _ _ _ _ ⟨by simp [cutSt], fun e' _ => Nat.zero_le _⟩ hl fun sz es g hval => ?_)
      obtain ⟨e', q1, _, q3, q4⟩ := hval
      simp only [cutSt, if_true] at q1
      obtain rfl := X.e.inj q1
      simp only [rowAt, Option.some.injEq, Prod.mk.injEq] at q3
      obtain ⟨rfl, rfl⟩ := q3
      obtain ⟨_, q5⟩ := hva e.sz e.es g ⟨e, hk, .inl rfl, rfl, q4⟩
      exact ⟨by simp; omega, q5⟩
    · simp at hv
  · refine h.heap.cut (i := .inl k) (r := ⟨e.sz, e.es, Hd k⟩) (m := m) (by simp [HeapOf, hk]) fun j s hj => ?_
    cases j with
    | inr _ => simp [HeapOf] at hj
    | inl k' =>
      simp only [HeapOf, cutSt] at hj
      by_cases hkk : k' = k
      · subst hkk
        simp only [if_true, Option.some.injEq] at hj
        exact ⟨rfl, hj.symm⟩
      · simp only [if_neg hkk] at hj
        split at hj
        · rename_i e' he'
          split at he' <;> simp at he'
        · simp at hj
  · obtain ⟨h1, h2⟩ := h.hdr k' h0 hk'
    by_cases hkk : k' = k
    · subst hkk
      exact ⟨by simp [cutSt], fun _ _ => h2 e hk⟩
    · refine ⟨?_, fun e' he' => ?_⟩
      · simp [cutSt, if_neg hkk]
      · simp [cutSt, if_neg hkk] at he'
theorem Rel.cutN {cx : Cx} {n : Nat} {st : St} {Hd : K → Path → Hdr} {a : Act} {w : World} (h : Rel cx n st Hd a w) {t : Nat} (hs : st (.s t) = .v (.c .n)) (k : K) :
    Rel cx n (cutSt t (.c .n) k .gone st) Hd a w := by
  refine ⟨h.defers, h.size, fun t' v hv => ?_, ?_, h.keep, fun k' h0 hk' => ?_, h.amb⟩
  · simp only [cutSt] at hv
    split at hv
    · rename_i ht
      subst ht
      obtain rfl := X.v.inj hv
      obtain ⟨h1, h2⟩ := h.slots t' _ hs
      refine ⟨h1, ?_⟩
      generalize a.tmps.getD t' undef = y at h2
      cases h2 with | c _ _ hc =>
      cases hc with | n => exact .c _ _ .n
    · simp at hv
  · refine h.heap.less fun j s hj => ?_
    cases j with
    | inr _ => simp [HeapOf] at hj
    | inl k' =>
      simp only [HeapOf, cutSt] at hj
      split at hj
      · rename_i e' he'
        split at he'
        · simp at he'
        · split at he' <;> simp at he'
      · simp at hj
  · obtain ⟨h1, h2⟩ := h.hdr k' h0 hk'
    refine ⟨?_, fun e' he' => ?_⟩
    · simp only [cutSt]
      split
      · simp
      · simp
    · simp only [cutSt] at he'
      split at he'
      · simp at he'
      · simp at he'
def holeA : A → A
  | .c _ => .c .d
  | .a ts => .a (ts.map fun _ => .d)
  | .p _ _ => .c .d
  | a => a
theorem finTs_hole {st : St} (h : ∀ k e, st (.k k) ≠ .e e) : ∀ (ts : List T) (n j : Nat), finTs st n j ts = ts.map fun _ => .d
  | [], n, j => rfl
  | t :: ts, n, j => by
    have h1 : finT st n j t = .d := by
      unfold finT
      split
      · split
        · rename_i e he; exact absurd he (h _ _)
        · rfl
      · rfl
    simp only [finTs, List.map_cons, h1, finTs_hole h ts n (j + 1)]
theorem finAs_hole {st : St} (h : ∀ k e, st (.k k) ≠ .e e) : ∀ (as : List A) (n : Nat), finAs st n as = as.map holeA
  | [], n => rfl
  | a :: as, n => by
    have h1 : finA st n a = holeA a := by
      cases a with
      | c t =>
        have := finTs_hole h [t] n 0
        simp only [finTs, List.map_cons, List.map_nil, List.cons.injEq, and_true] at this
        simp only [finA, holeA, this]
      | a ts => simp only [finA, holeA, finTs_hole h]
      | p sz es =>
        have := finTs_hole h [.s true sz es] n 0
        simp only [finTs, List.map_cons, List.map_nil, List.cons.injEq, and_true] at this
        simp only [finA, holeA, this]
      | q _ _ _ _ => rfl
      | f _ _ => rfl
    simp only [finAs, List.map_cons, h1, finAs_hole h as (n + 1)]
namespace E
def cutM (t sz : Nat) (r : List (List T)) : M := getO (.tmp t) fun v => match v with
  | .c (.r k ver p off len) => getE [] k fun e => .req (p = [] ∧ off = 0 ∧ e.sz = sz ∧ len ≤ e.es.length ∧ e.es.take len = r) (.ret [])
  | .c .n => .req (r = []) (.ret [])
  | _ => .bad
def CUT (P : Program) (t sz : Nat) (r : List (List T)) (e : Exit) (L : Ws) (_h : Hold (P, t, sz, r, e)) : Prop :=
  (e = .normal ∨ e = .ret) ∧ (cutM t sz r).wq P false (ofL L) [] fun _ _ => True
theorem cut_n {P : Program} {t sz : Nat} {r : List (List T)} {L : Ws} : CUT P t sz r .normal L () = WQ P false (cutM t sz r) (ofL L) [] (fun _ _ => True) () := by simp [CUT, WQ]
theorem cut_r {P : Program} {t sz : Nat} {r : List (List T)} {L : Ws} : CUT P t sz r .ret L () = WQ P false (cutM t sz r) (ofL L) [] (fun _ _ => True) () := by simp [CUT, WQ]
variable {P : Program}
theorem Fn.evC {f : Nat} {fn : Func} {c : Code} {al fin : List A} {sz : Nat} {r : List (List T)} {t : Nat} {ty : TypeId} {n : Nat} (md : Nat → Nat → Bool) (wr : Bool) (hmix : P.follows .mixedOrders = true) (hf : P.funcs[f]? = some fn) (hb : fn.body = some c) (hname : fn.name ≠ "runtime.NumGoroutine") (hnt : fn.ntmps = n) (hn : al.length ≤ n) (hd : dstsOK n c = true)
    (hr : fn.results.toList = [.tmp t]) (ht : fn.resultTypes.toList = [ty]) (hki : kinds P 12 ty = some [some sz]) (hfin : fin = al.map holeA) (hres : ownEs r = true)
    (h : EV P md wr n al.length c (entryL 0 al) (fun e L => CUT P t sz r e L ()) ()) : Go.Abs.Fn P f al fin [.c (.s true sz r)] := by
  subst hnt
  refine Go.Abs.Fn.of hf hb hname hn ?_ (by simp [resOK, A.ts, ownE, ownT, hres]) ?_
  · subst hfin
    refine List.all_eq_true.2 fun a ha => List.all_eq_true.2 fun x hx => ?_
    obtain ⟨a0, _, rfl⟩ := List.mem_map.1 ha
    cases a0 with
    | c _ => simp [holeA, A.ts] at hx; subst hx; rfl
    | a ts => simp only [holeA, A.ts, List.mem_map] at hx; obtain ⟨_, _, rfl⟩ := hx; rfl
    | p _ _ => simp [holeA, A.ts] at hx; subst hx; rfl
    | q _ _ _ _ => simp [holeA, A.ts] at hx
    | f _ _ => simp [holeA, A.ts] at hx
  rw [entrySt_eq]
  have hv := VC_ok hmix c _ _ hd h
  intro cx Hd a w h0 hrel
  refine wp_mono (hv cx Hd a w h0 hrel) ?_
  rintro e a' w' ⟨st', Hd', ⟨L', rfl, h1, h2⟩, hrel'⟩
  have h2 := M.wq_wp _ _ h2
  simp only [cutM, getO, M.wp] at h2
  cases hs : ofL L' (.s t) with
  | none => simp [hs, M.wp] at h2
  | gone => simp [hs, M.wp] at h2
  | e _ => simp [hs, M.wp] at h2
  | v v =>
    simp only [hs] at h2
    cases v with
    | a _ => exact h2.elim
    | p _ _ _ _ _ => exact h2.elim
    | q _ _ _ _ => exact h2.elim
    | t _ => exact h2.elim
    | f _ _ => exact h2.elim
    | u => exact h2.elim
    | c y =>
      cases y with
      | v _ => exact h2.elim
      | b _ _ => exact h2.elim
      | u => exact h2.elim
      | n =>
        simp only [M.wp] at h2
        obtain ⟨rfl, -⟩ := h2
        refine ⟨_, Hd', ⟨h1, ?_⟩, hrel'.cutN hs (0, 0)⟩
        unfold ExitOK
        rw [hr, ht]
        simp only [resultsM, resultM, getO, M.wp, cutSt, if_true, outM, outM1, hki, convs, conv, and_true, true_and]
        rw [finAs_hole, hfin]
        intro k e' he'
        simp only [app, ovl, cutSt] at he'
        split at he'
        · simp at he'
        · split at he' <;> simp at he'
      | r k ver p off len =>
        simp only [getE, ovl, M.wp] at h2
        cases hk : ofL L' (.k k) with
        | none => simp [hk, M.wp] at h2
        | gone => simp [hk, M.wp] at h2
        | v _ => simp [hk, M.wp] at h2
        | e e0 =>
          simp only [hk, M.wp] at h2
          obtain ⟨⟨rfl, rfl, rfl, hle, rfl⟩, -⟩ := h2
          refine ⟨_, Hd', ⟨h1, ?_⟩, hrel'.cut hs hk hle⟩
          unfold ExitOK
          rw [hr, ht]
          simp only [resultsM, resultM, getO, M.wp, cutSt, if_true, outM, outM1, hki, convs, conv, getE, ovl, and_true, true_and]
          refine ⟨by simp; omega, ?_⟩
          rw [finAs_hole, hfin]
          intro k' e' he'
          simp only [app, ovl] at he'
          by_cases hkk : k' = k
          · subst hkk; simp at he'
          · simp only [Loc.k.injEq, hkk, if_false, cutSt] at he'
            split at he' <;> simp at he'
end E
end Go.Abs
namespace Go.Abs.E
open Go Go.Abs
variable [Amb]
section
variable {P : Program} {md : Nat → Nat → Bool} {dr wr : Bool} {st : St} {rs : List Loc} {K : List Loc → Ws → Prop} {d : Tmp} {ty : TypeId} {pos : String} {aft : Array Edge} {g : Option (Nat × Bool)}
theorem q_convert {s t : TypeId} {x : Operand} : WQ P dr (opM2 P md wr ⟨some d, .convert s t x, ty, pos, aft, g⟩) st rs K () = WQ P dr (match P.underlying s, P.underlying t with
    | some (.int _), some (.int k) => getO x fun x => match x with
      | .c (.v (.int _ m)) => M.ret [(.s d, .v (.c (.v (.int k (k.wrap m)))))]
      | _ => .bad
    | _, _ => convS P s t x (some d)) st rs K () := by cases wr <;> rfl
theorem q_cap {x : Operand} {t : TypeId} : WQ P dr (opM2 P md wr ⟨some d, .call ⟨.builtin .cap, #[x], #[t]⟩, ty, pos, aft, g⟩) st rs K () = WQ P dr (match elemOf P t with
        | some _ => getO x fun x => match x with
          | .c .n => M.ret [(.s d, .v (.c (.v (.int .i64 0))))]
          | _ => .bad
        | none => .bad) st rs K () := by cases wr <;> rfl
theorem q_clear {x : Operand} {t : TypeId} : WQ P dr (opM2 P md wr ⟨none, .call ⟨.builtin .clear, #[x], #[t]⟩, ty, pos, aft, g⟩) st rs K () = WQ P dr (match elemOf P t with
        | some el => match zeroOf P el, szOf P el with
          | some z, some n => getO x fun x => match x with
            | .c (.r k _ p off len) => getE [] k fun e => .req (p = [] ∧ e.sz = n ∧ n ≠ 0 ∧ off + len ≤ e.es.length ∧ scalEs e.es = true ∧ z.all T.isV = true ∧ z.all T.one = true) (.ret [(.k k, .e ⟨e.ver, e.sz, e.es.take off ++ (List.replicate len z ++ e.es.drop (off + len))⟩)])
            | _ => .bad
          | _, _ => .bad
        | none => .bad) st rs K () := by cases wr <;> rfl
end
end Go.Abs.E
namespace Go.Abs
open Go
variable [Amb]
namespace E
variable {P : Program}
end E
end Go.Abs
namespace Go.Abs
open Go
variable [Amb]
namespace E
theorem INDEP.mk2 {P : Program} {md : Nat → Nat → Bool} {wr : Bool} {os : List Oper} {L : Ws} {fs : List Foot} (h : indepM os fs = true) : INDEP P md wr os L fs () := .inl (indepM_ok h)
end E
end Go.Abs
namespace Go.Abs
open Go
variable [Amb]
def E.argsH (P : Program) (md : Nat → Bool) (n : Nat) (ac : Acc) (tys : List TypeId) (vs : List V) (f : Acc → List A → M) (_ : E.Hold f) : M := argsA P md n ac tys vs f
def E.argH (own : Bool) (n : Nat) (ac : Acc) (ks : Option (List (Option Nat))) (v : V) (f : Acc → A → M) (_ : E.Hold f) : M := match v, ks with
  | .c c, some [kd] => cellA own n 0 ac kd c fun ac t => f ac (.c t)
  | .a cs, some ks => cellsA own n 0 ac ks cs fun ac ts => f ac (.a ts)
  | .f fn caps, _ => capsA ac.1 caps fun as => f ac (.f fn as)
  | .p k ver p i off, _ => .req (own = true ∧ p = [] ∧ i = 0 ∧ off = 0) (cellA true n 0 ac none (.r k ver [] 0 1) fun ac t => match t with
    | .s true sz es => f ac (.p sz es)
    | _ => .bad)
  | _, _ => .bad
def ptrH (f : Acc → A → M) (ac : Acc) (t : T) : M := match t with
  | .s true sz es => f ac (.p sz es)
  | _ => .bad
theorem ptrH_s (f : Acc → A → M) (ac : Acc) (sz : Nat) (es : List (List T)) : ptrH f ac (.s true sz es) = f ac (.p sz es) := rfl
def E.cellsH (own : Bool) (n j : Nat) (ac : Acc) (ks : List (Option Nat)) (cs : List C) (f : Acc → List T → M) (_ : E.Hold f) : M := cellsA own n j ac ks cs f
def E.cellH (own : Bool) (n j : Nat) (ac : Acc) (kd : Option Nat) (c : C) (f : Acc → T → M) (_ : E.Hold f) : M := cellA own n j ac kd c f
theorem E.argsA_h (P : Program) (md : Nat → Bool) (n : Nat) (ac : Acc) (tys : List TypeId) (vs : List V) (f : Acc → List A → M) : argsA P md n ac tys vs f = E.argsH P md n ac tys vs f () := rfl
theorem E.argsH_nil (P : Program) (md : Nat → Bool) (n : Nat) (ac : Acc) (f : Acc → List A → M) : E.argsH P md n ac [] [] f () = f ac [] := rfl
theorem E.argsH_cons (P : Program) (md : Nat → Bool) (n : Nat) (ac : Acc) (ty : TypeId) (tys : List TypeId) (v : V) (vs : List V) (f : Acc → List A → M) : E.argsH P md n ac (ty :: tys) (v :: vs) f () = E.argH (md n) n ac (kinds P 12 ty) v (fun ac a => E.argsH P md (n + 1) ac tys vs (fun ac as => f ac (a :: as)) ()) () := by
  unfold E.argsH E.argH; rw [argsA]; rfl
theorem E.argH_c (own : Bool) (n : Nat) (ac : Acc) (kd : Option Nat) (c : C) (f : Acc → A → M) : E.argH own n ac (some [kd]) (.c c) f () = E.cellH own n 0 ac kd c (fun ac t => f ac (.c t)) () := rfl
theorem E.argH_a (own : Bool) (n : Nat) (ac : Acc) (ks : List (Option Nat)) (cs : List C) (f : Acc → A → M) : E.argH own n ac (some ks) (.a cs) f () = E.cellsH own n 0 ac ks cs (fun ac ts => f ac (.a ts)) () := rfl
theorem E.argH_p (own : Bool) (n : Nat) (ac : Acc) (ks : Option (List (Option Nat))) (k : K) (ver : Nat) (p : Path) (i off : Nat) (f : Acc → A → M) : E.argH own n ac ks (.p k ver p i off) f () = .req (own = true ∧ p = [] ∧ i = 0 ∧ off = 0) (E.cellH true n 0 ac none (.r k ver [] 0 1) (ptrH f) ()) := by
  cases ks with
  | none => rfl
  | some ks => rcases ks with _ | ⟨_, _ | _⟩ <;> rfl
theorem E.argH_f (own : Bool) (n : Nat) (ac : Acc) (ks : Option (List (Option Nat))) (fn : FuncId) (caps : List V) (f : Acc → A → M) : E.argH own n ac ks (.f fn caps) f () = capsA ac.1 caps (fun as => f ac (.f fn as)) := rfl
theorem E.cellsH_nil (own : Bool) (n j : Nat) (ac : Acc) (f : Acc → List T → M) : E.cellsH own n j ac [] [] f () = f ac [] := rfl
theorem E.cellsH_cons (own : Bool) (n j : Nat) (ac : Acc) (kd : Option Nat) (ks : List (Option Nat)) (c : C) (cs : List C) (f : Acc → List T → M) : E.cellsH own n j ac (kd :: ks) (c :: cs) f () = E.cellH own n j ac kd c (fun ac t => E.cellsH own n (j + 1) ac ks cs (fun ac ts => f ac (t :: ts)) ()) () := rfl
theorem E.cellH_v (own : Bool) (n j : Nat) (ac : Acc) (kd : Option Nat) (x : Value) (f : Acc → T → M) : E.cellH own n j ac kd (.v x) f () = f ac (.v x) := rfl
theorem E.cellH_b (n j : Nat) (ac : Acc) (kd : Option Nat) (sz : Nat) (es : List (List T)) (f : Acc → T → M) : E.cellH false n j ac kd (.b sz es) f () = f ac (.s false sz es) := rfl
theorem E.cellH_n (n j : Nat) (ac : Acc) (m : Nat) (f : Acc → T → M) : E.cellH false n j ac (some m) .n f () = f ac (.s false m []) := rfl
theorem E.cellH_nt (n j : Nat) (ac : Acc) (kd : Option Nat) (f : Acc → T → M) : E.cellH true n j ac kd .n f () = f ac (.v (.slice none 0 0)) := by cases kd <;> rfl
theorem E.cellH_u (n j : Nat) (ac : Acc) (kd : Option Nat) (f : Acc → T → M) : E.cellH false n j ac kd .u f () = f ac .d := rfl
theorem E.cellH_rt (n j : Nat) (ac : Acc) (kd : Option Nat) (k : K) (ver : Nat) (p : Path) (off len : Nat) (f : Acc → T → M) : E.cellH true n j ac kd (.r k ver p off len) f () = getR ac.1 k ver p fun e sz es => .req (off = 0 ∧ len = es.length ∧ ownEs es = true) (f (gone k p e :: ac.1, ⟨n, j, k, e.ver, p, sz, es.length⟩ :: ac.2) (.s true sz es)) := rfl
theorem E.cellH_rf (n j : Nat) (ac : Acc) (kd : Option Nat) (k : K) (ver : Nat) (p : Path) (off len : Nat) (f : Acc → T → M) : E.cellH false n j ac kd (.r k ver p off len) f () = getR ac.1 k ver p fun e sz es => .req (off + len ≤ es.length) (f ac (.s false sz (borEs ((es.drop off).take len)))) := rfl
end Go.Abs
namespace Go.Abs
open Go
variable [Amb]
def Raw (H : K → Option Hdr) (k : K) (x : Value) (len : Nat) : Prop :=
  ∃ (a : Option Addr) (cap : Nat) (h : Hdr), x = .slice a len cap ∧ H k = some h ∧ len ≤ cap ∧ (cap ≠ 0 → a = some ⟨h.b, h.o, none⟩ ∧ cap ≤ h.cap)
theorem Raw.one {H : K → Option Hdr} {k : K} {x : Value} {len : Nat} (h : Raw H k x len) : x.oneCell' = true := by
  obtain ⟨a, cap, hh, rfl, _⟩ := h
  rfl
def CVs (H : K → Option Hdr) (st : St) : List (Option K) → List C → List C → Prop
  | [], [], cs' => cs' = []
  | none :: ks, c :: cs, cs' => ∃ r, cs' = c :: r ∧ CVs H st ks cs r
  | some k :: ks, c :: cs, cs' => ∃ x e r, c = .v x ∧ st (.k k) = .e e ∧ Raw H k x e.es.length ∧ cs' = .r k 0 [] 0 e.es.length :: r ∧ CVs H st ks cs r
  | _, _, _ => False
theorem CVs_ok {cx : Cx} {n : Nat} {st : St} {Hd : K → Path → Hdr} {a : Act} {w : World} (h : Rel cx n st Hd a w) : ∀ (ks : List (Option K)) (cs cs' : List C), CVs cx.H0 st ks cs cs' → cs'.length = cs.length ∧ ∀ (i : Nat) (c c' : C) (y : Value), cs[i]? = some c → cs'[i]? = some c' → COK cx st Hd c y → COK cx st Hd c' y
  | [], [], cs', hh => by
    obtain rfl : cs' = [] := hh
    exact ⟨rfl, fun i c c' y h1 => by simp at h1⟩
  | none :: ks, c :: cs, cs', ⟨r, e, hr⟩ => by
    subst e
    obtain ⟨h1, h2⟩ := CVs_ok h ks cs r hr
    refine ⟨by simp [h1], fun i d d' y q1 q2 q3 => ?_⟩
    cases i with
    | zero => simp at q1 q2; subst q1; subst q2; exact q3
    | succ i => exact h2 i d d' y (by simpa using q1) (by simpa using q2) q3
  | some k :: ks, c :: cs, cs', ⟨x, e, r, e1, e2, e3, e4, hr⟩ => by
    subst e4; subst e1
    obtain ⟨h1, h2⟩ := CVs_ok h ks cs r hr
    refine ⟨by simp [h1], fun i d d' y q1 q2 q3 => ?_⟩
    cases i with
    | zero =>
      simp at q1 q2; subst q1; subst q2
      cases q3
      obtain ⟨ad, cap, hh, rfl, f1, f2, f3⟩ := e3
      refine .r _ _ _ _ _ _ _ ⟨by rw [e2]; simp, fun _ _ => Nat.zero_le _⟩ f2 (fun sz es hd hv => ?_)
      obtain ⟨e', g1, _, g2, g3⟩ := hv
      rw [e2] at g1
      obtain rfl := X.e.inj g1
      simp only [rowAt, Option.some.injEq, Prod.mk.injEq] at g2
      obtain ⟨rfl, rfl⟩ := g2
      have g4 := (h.hdr k hh f1).2 _ e2
      rw [g4] at g3
      subst g3
      refine ⟨by omega, fun hc => ?_⟩
      obtain ⟨f4, f5⟩ := f3 hc
      exact ⟨by rw [f4]; simp, by omega⟩
    | succ i => exact h2 i d d' y (by simpa using q1) (by simpa using q2) q3
  | [], _ :: _, _, hh => hh.elim
  | none :: _, [], _, hh => hh.elim
  | some _ :: _, [], _, hh => hh.elim
theorem known_slot {st : St} {t : Nat} {v : V} {k : K} : app [(.s t, .v v)] st (.k k) = st (.k k) := by
  simp [app, ovl]
theorem COK.slot {cx : Cx} {st : St} {Hd : K → Path → Hdr} {t : Nat} {v' : V} {c : C} {y : Value} (h : COK cx st Hd c y) : COK cx (app [(.s t, .v v')] st) Hd c y := by
  refine h.mono (fun k ver hk => ?_) (fun k ver p sz es hd hk hv => ?_)
  · unfold known at *; rw [known_slot]; exact hk
  · refine ⟨es, ?_, rfl⟩
    unfold valid at *; rw [known_slot] at hv; exact hv
theorem VOK.slot {cx : Cx} {st : St} {Hd : K → Path → Hdr} {t : Nat} {v' : V} {v : V} {y : Value} (h : VOK cx st Hd v y) : VOK cx (app [(.s t, .v v')] st) Hd v y := by
  refine h.mono (fun k ver hk => ?_) (fun k ver p sz es hd hk hv => ?_)
  · unfold known at *; rw [known_slot]; exact hk
  · refine ⟨es, ?_, rfl⟩
    unfold valid at *; rw [known_slot] at hv; exact hv
def sameV : V → V → List C → List C → Prop
  | .c c, .c c', cs, cs' => cs = [c] ∧ cs' = [c']
  | .a ds, .a ds', cs, cs' => cs = ds ∧ cs' = ds'
  | _, _, _, _ => False
theorem Rel.slot {cx : Cx} {n : Nat} {st : St} {Hd : K → Path → Hdr} {a : Act} {w : World} (h : Rel cx n st Hd a w) {t : Nat} {v v' : V} (hs : st (.s t) = .v v) (hv : ∀ y, VOK cx st Hd v y → VOK cx st Hd v' y) : Rel cx n (app [(.s t, .v v')] st) Hd a w := by
  refine ⟨h.defers, h.size, fun t' u hu => ?_, ?_, h.keep, fun k hh hk => ?_, h.amb⟩
  · by_cases ht : t' = t
    · subst ht
      have : v' = u := by simpa [app, ovl] using hu
      subst this
      obtain ⟨h1, h2⟩ := h.slots t' v hs
      exact ⟨h1, (hv _ h2).slot⟩
    · have : st (.s t') = .v u := by
        have hne : ¬ t = t' := fun e => ht e.symm
        simpa [app, ovl, hne, ht] using hu
      obtain ⟨h1, h2⟩ := h.slots t' u this
      exact ⟨h1, h2.slot⟩
  · have e : HeapOf (app [(.s t, .v v')] st) Hd = HeapOf st Hd := by
      funext i
      cases i with
      | inl k => simp only [HeapOf, known_slot]
      | inr _ => rfl
    rw [e]; exact h.heap
  · rw [known_slot]; exact h.hdr k hh hk
theorem Rel.raw {cx : Cx} {n : Nat} {st : St} {Hd : K → Path → Hdr} {a : Act} {w : World} (h : Rel cx n st Hd a w) {t : Nat} {v v' : V} {ks : List (Option K)} {cs cs' : List C} (hs : st (.s t) = .v v) (hsm : sameV v v' cs cs') (hc : CVs cx.H0 st ks cs cs') : Rel cx n (app [(.s t, .v v')] st) Hd a w := by
  obtain ⟨hl, hcc⟩ := CVs_ok h ks cs cs' hc
  refine h.slot hs fun y hy => ?_
  unfold sameV at hsm
  split at hsm
  · obtain ⟨rfl, rfl⟩ := hsm
    cases hy with | c _ _ h1 => exact .c _ _ (hcc 0 _ _ y rfl rfl h1)
  · obtain ⟨rfl, rfl⟩ := hsm
    cases hy with | a _ ys h1 h2 =>
    refine .a _ _ (by omega) fun i c y hi hy => ?_
    have hil := (List.getElem?_eq_some_iff.1 hi).1
    exact hcc i _ c y (List.getElem?_eq_getElem (by omega)) hi (h2 i _ y (List.getElem?_eq_getElem (by omega)) hy)
  · exact hsm.elim
def AWh (H : K → Option Hdr) (P : Program) (n np : Nat) (c : Code) (st : St) (Q : Exit → St → Prop) : Prop :=
  ∀ (cx : Cx) (Hd : K → Path → Hdr) (a : Act) (w : World), cx.H0 = H → (∀ k h, cx.H0 k = some h → k.1 < np) → Rel cx n st Hd a w → c.wp P (fun e a' w' => ∃ st' Hd', Q e st' ∧ Rel cx n st' Hd' a' w') a w
section
variable {H : K → Option Hdr} {P : Program} {md : Nat → Nat → Bool} {wr : Bool} {n np : Nat}
theorem wpList_step {ops : Array Oper} {Q : Exit → Act → World → Prop} {o : Oper} {rest : List Oper} {a : Act} {w : World} (h : Step P ops o a w (wpList P ops Q rest) Q) : wpList P ops Q (o :: rest) a w := h
theorem RM_list {ops : List Oper} {cx : Cx} {Q : Exit → Act → World → Prop} {rest2 : List Oper} {KK : Ws → List Foot → Prop} : ∀ (rest : List Oper), (rest.all fun o => match o.dst with | some t => Nat.blt t n | none => true) = true → ∀ {L : Ws} {Hd : K → Path → Hdr} {a : Act} {w : World}, Rel cx n (ofL L) Hd a w → RM P md wr ops rest L KK →
    (∀ L' Hd' a' w', KK L' [] → Rel cx n (ofL L') Hd' a' w' → wpList P ops.toArray Q rest2 a' w') → wpList P ops.toArray Q (rest ++ rest2) a w
  | [], hd, L, Hd, a, w, hr, h, hk => hk L Hd a w h hr
  | o :: rest, hd, L, Hd, a, w, hr, h, hk => by
    simp only [List.all_cons, Bool.and_eq_true] at hd
    rw [RM_cons] at h
    refine wpList_step ?_
    have h1 := operM2_wp (M.wq_wp (K := fun ws => RM P md wr ops rest (ws ++ L) KK) _ [] h)
    refine operM_ok (md := md) (ops := ops.toArray) hr (fun t ht => ?_) (by simpa using h1) (fun ws Hd' a' w' hw hr' => ?_)
    · have := hd.1; rw [ht] at this; exact Nat.blt_eq ▸ this
    · rw [app_ofL] at hr'
      exact RM_list rest hd.2 hr' hw hk
end
end Go.Abs
namespace Go.Abs.E
open Go Go.Abs
variable [Amb]
def CVT (H : K → Option Hdr) (t : Nat) (ks : List (Option K)) (L : Ws) (G : Ws → Prop) (_h : Hold G) : Prop :=
  ∃ v v' cs cs', ofL L (.s t) = .v v ∧ sameV v v' cs cs' ∧ CVs H (ofL L) ks cs cs' ∧ G ((.s t, .v v') :: L)
def EVH (H : K → Option Hdr) (P : Program) (n np : Nat) (c : Code) (L : Ws) (KK : KX) (_h : Hold (H, P, n, np, c, KK)) : Prop :=
  AWh H P n np c (ofL L) fun e st => ∃ L', st = ofL L' ∧ KK e L'
section
variable {H : K → Option Hdr} {P : Program} {md : Nat → Nat → Bool} {wr : Bool} {n np : Nat} {KK : KX} {L : Ws} {x y : Code}
theorem evh_seq (h : EVH H P n np x L (fun e L' => match e with | .normal => EVH H P n np y L' KK () | e => KK e L') ()) : EVH H P n np (.seq x y) L KK () := by
  intro cx Hd a w hH h0 hr
  refine wp_seq (wp_mono (h cx Hd a w hH h0 hr) ?_)
  rintro e a' w' ⟨st', Hd', ⟨L', rfl, h1⟩, h2⟩
  cases e with
  | normal => exact h1 cx Hd' a' w' hH h0 h2
  | _ => exact ⟨_, Hd', ⟨L', rfl, h1⟩, h2⟩
theorem evh_ret (h : KK .ret L) : EVH H P n np .ret L KK () := fun cx Hd a w _ _ hr => wp_ret ⟨_, Hd, ⟨L, rfl, h⟩, hr⟩
theorem evh_reg {id : Nat} {ops : List Oper} (md : Nat → Nat → Bool) (wr : Bool) (hd : (ops.all fun o => match o.dst with | some t => Nat.blt t n | none => true) = true) (h : RM P md wr ops ops L (fun L' _ => KK .normal L') ()) : EVH H P n np (.region id ops.toArray false) L KK () := by
  intro cx Hd a w hH h0 hr
  refine wp_region_list ?_
  have := RM_list (rest2 := []) (Q := fun e a' w' => ∃ st' Hd', (∃ L', st' = ofL L' ∧ KK e L') ∧ Rel cx n st' Hd' a' w') ops hd hr h (fun L' Hd' a' w' hk hr' => ⟨_, Hd', ⟨L', rfl, hk⟩, hr'⟩)
  simpa using this
theorem evh_conv {id : Nat} {ops : List Oper} (md : Nat → Nat → Bool) (wr : Bool) (m t : Nat) (ks : List (Option K)) (hd : (ops.all fun o => match o.dst with | some t => Nat.blt t n | none => true) = true)
    (h : RM P md wr ops (ops.take m) L (fun L1 _ => CVT H t ks L1 (fun L2 => RM P md wr ops (ops.drop m) L2 (fun L' _ => KK .normal L') ()) ()) ()) : EVH H P n np (.region id ops.toArray false) L KK () := by
  intro cx Hd a w hH h0 hr
  refine wp_region_list ?_
  have hda : ∀ o ∈ ops, (match o.dst with | some t => Nat.blt t n | none => true) = true := List.all_eq_true.1 hd
  have := RM_list (rest2 := ops.drop m) (Q := fun e a' w' => ∃ st' Hd', (∃ L', st' = ofL L' ∧ KK e L') ∧ Rel cx n st' Hd' a' w') (ops.take m) (List.all_eq_true.2 fun o ho => hda o (List.mem_of_mem_take ho)) hr h (fun L1 Hd1 a1 w1 hk hr1 => ?_)
  · simpa using this
  · obtain ⟨v, v', cs, cs', c1, c2, c3, c4⟩ := hk
    subst hH
    have hr2 := hr1.raw c1 c2 c3
    rw [app_ofL] at hr2
    have := RM_list (rest2 := []) (Q := fun e a' w' => ∃ st' Hd', (∃ L', st' = ofL L' ∧ KK e L') ∧ Rel cx n st' Hd' a' w') (ops.drop m) (List.all_eq_true.2 fun o ho => hda o (List.mem_of_mem_drop ho)) hr2 c4 (fun L' Hd' a' w' hk hr' => ⟨_, Hd', ⟨L', rfl, hk⟩, hr'⟩)
    simpa using this
def rawCs (rv : Nat → Value) : Nat → List T → List C
  | _, [] => []
  | j, .s true _ _ :: ts => .v (rv j) :: rawCs rv (j + 1) ts
  | j, t :: ts => entryC 0 j t :: rawCs rv (j + 1) ts
theorem rawCs_get (rv : Nat → Value) : ∀ (ts : List T) (j i : Nat), (rawCs rv j ts)[i]? = (ts[i]?).map fun t => match t with | .s true _ _ => C.v (rv (j + i)) | t => entryC 0 (j + i) t
  | [], j, i => by simp [rawCs]
  | t :: ts, j, 0 => by
    cases t with
    | s own sz es => cases own <;> simp [rawCs]
    | _ => simp [rawCs]
  | t :: ts, j, i + 1 => by
    have := rawCs_get rv ts (j + 1) i
    rw [show j + 1 + i = j + (i + 1) by omega] at this
    cases t with
    | s own sz es => cases own <;> simpa [rawCs] using this
    | _ => simpa [rawCs] using this
theorem rawCs_len (rv : Nat → Value) : ∀ (ts : List T) (j : Nat), (rawCs rv j ts).length = ts.length
  | [], j => rfl
  | t :: ts, j => by
    have := rawCs_len rv ts (j + 1)
    cases t with
    | s own sz es => cases own <;> simpa [rawCs] using this
    | _ => simpa [rawCs] using this
theorem Fn.evH {f : Nat} {fn : Func} {c : Code} {ts : List T} {al fin res : List A} {rs : List ResultVar} {tys : List TypeId} {n : Nat} (hf : P.funcs[f]? = some fn) (hb : fn.body = some c) (hname : fn.name ≠ "runtime.NumGoroutine") (hnt : fn.ntmps = n) (hn : al.length + 1 ≤ n)
    (hr : fn.results.toList = rs) (ht : fn.resultTypes.toList = tys) (hfin : finOK fin = true) (hres : resOK res = true)
    (h : ∀ (H : K → Option Hdr) (rv : Nat → Value), (∀ j sz es, ts[j]? = some (.s true sz es) → Raw H (0, j) (rv j) es.length) →
      EVH H P n (al.length + 1) c ((.s 0, .v (.a (rawCs rv 0 ts))) :: entryL 0 (.a ts :: al)) (fun e L => FK P rs tys (.a ts :: al) fin res e L ()) ()) : Go.Abs.Fn P f (.a ts :: al) fin res := by
  subst hnt
  refine Go.Abs.Fn.ofX hf hb hname hn hfin hres fun cx Hd a w h0 hH hr0 => ?_
  -- the first argument's cells
  obtain ⟨hlt, hv0⟩ := hr0.slots 0 (.a (entryCs 0 0 ts)) rfl
  generalize hy : a.tmps.getD 0 undef = y0 at hv0
  cases hv0 with | a _ ys hl hcell =>
  have hcl : (entryCs 0 0 ts).length = ts.length := by
    have : ∀ (ts : List T) (j : Nat), (entryCs 0 j ts).length = ts.length := fun ts => by
      induction ts with
      | nil => intro j; rfl
      | cons t ts ih => intro j; simp [entryCs, ih]
    exact this ts 0
  have hraw : ∀ j sz es, ts[j]? = some (.s true sz es) → Raw cx.H0 (0, j) (ys.getD j undef) es.length := by
    intro j sz es hj
    have hjl := (List.getElem?_eq_some_iff.1 hj).1
    have hyj : ys[j]? = some (ys.getD j undef) := by simp [Array.getD_eq_getD_getElem?, Array.getElem?_eq_getElem (by omega : j < ys.size)]
    have hc := hcell j (.r (0, j) 0 [] 0 es.length) _ (by rw [entryCs_get, hj]; simp [entryC]) hyj
    have hco : cellOf (.a ts :: al) (0, j) = some (sz, es) := by simp [cellOf, A.ts, hj]
    have h1 := hH (0, j) (by rw [hco]; rfl)
    generalize ys.getD j undef = y at hc
    cases hc with | r _ _ _ _ _ ad cap hk hle hv =>
    obtain ⟨q1, q2⟩ := hv sz es (Hd (0, j) []) ⟨⟨0, sz, es⟩, by simp [entrySt, hco], .inl rfl, rfl, rfl⟩
    refine ⟨ad, cap, Hd (0, j) [], rfl, h1, hle, fun hc => ?_⟩
    obtain ⟨q3, q4⟩ := q2 hc
    exact ⟨by rw [q3]; simp, by omega⟩
  have hr1 : Rel cx fn.ntmps (ofL ((.s 0, .v (.a (rawCs (fun j => ys.getD j undef) 0 ts))) :: entryL 0 (.a ts :: al))) Hd a w := by
    have h2 : Rel cx fn.ntmps (app [(.s 0, .v (.a (rawCs (fun j => ys.getD j undef) 0 ts)))] (entrySt (.a ts :: al))) Hd a w := by
      obtain ⟨r1, r2, r3, r4, r5, r6, r7⟩ := hr0
      refine ⟨r1, r2, fun t' u hu => ?_, ?_, r5, fun k hh hk => ?_, r7⟩
      · by_cases ht : t' = 0
        · subst ht
          have : V.a (rawCs (fun j => ys.getD j undef) 0 ts) = u := by simpa [app, ovl] using hu
          subst this
          refine ⟨hlt, ?_⟩
          rw [hy]
          refine .a _ _ ?_ fun i c y hi hyi => ?_
          · rw [rawCs_len]; omega
          · rw [rawCs_get] at hi
            cases hti : ts[i]? with
            | none => rw [hti] at hi; simp at hi
            | some t =>
              rw [hti] at hi
              have hyi2 : ys.getD i undef = y := by simp [Array.getD_eq_getD_getElem?, hyi]
              have hold := hcell i (entryC 0 (0 + i) t) y (by rw [entryCs_get, hti]; rfl) hyi
              cases t with
              | s own sz es =>
                cases own with
                | true =>
                  simp only [Option.map_some, Option.some.injEq, Nat.zero_add, hyi2] at hi
                  subst hi; exact .v _
                | false =>
                  simp only [Option.map_some, Option.some.injEq] at hi
                  subst hi; exact hold.slot
              | v x => simp only [Option.map_some, Option.some.injEq] at hi; subst hi; exact hold.slot
              | d => simp only [Option.map_some, Option.some.injEq] at hi; subst hi; exact hold.slot
        · have hne : ¬ 0 = t' := fun e => ht e.symm
          have : entrySt (.a ts :: al) (.s t') = .v u := by simpa [app, ovl, hne, ht] using hu
          obtain ⟨h1, h2⟩ := r3 t' u this
          exact ⟨h1, h2.slot⟩
      · have e : HeapOf (app [(.s 0, .v (.a (rawCs (fun j => ys.getD j undef) 0 ts)))] (entrySt (.a ts :: al))) Hd = HeapOf (entrySt (.a ts :: al)) Hd := by
          funext i
          cases i with
          | inl k => simp only [HeapOf, known_slot]
          | inr _ => rfl
        rw [e]; exact r4
      · rw [known_slot]; exact r6 k hh hk
    rw [entrySt_eq, app_ofL] at h2
    exact h2
  refine wp_mono (h cx.H0 (fun j => ys.getD j undef) hraw cx Hd a w rfl h0 hr1) ?_
  rintro e a' w' ⟨st', Hd', ⟨L', rfl, h1, h2⟩, h3⟩
  refine ⟨_, Hd', ⟨h1, ?_⟩, h3⟩
  unfold ExitOK
  rw [hr, ht]
  exact M.wq_wp _ _ h2
end
end Go.Abs.E
namespace Go.Abs.E
open Go Go.Abs
variable [Amb]
section
variable {H : K → Option Hdr} {L : Ws} {G : Ws → Prop} {t : Nat}
theorem CVT.use1 {k : K} {x : Value} {e : Ent} (hx : ofL L (.s t) = .v (.c (.v x))) (he : ofL L (.k k) = .e e) (hr : Raw H k x e.es.length) (hg : G ((.s t, .v (.c (.r k 0 [] 0 e.es.length))) :: L)) : CVT H t [some k] L G () :=
  ⟨.c (.v x), .c (.r k 0 [] 0 e.es.length), [.v x], [.r k 0 [] 0 e.es.length], hx, ⟨rfl, rfl⟩, ⟨x, e, [], rfl, he, hr, rfl, rfl⟩, hg⟩
theorem CVT.useA {ks : List (Option K)} {cs cs' : List C} (hx : ofL L (.s t) = .v (.a cs)) (hc : CVs H (ofL L) ks cs cs') (hg : G ((.s t, .v (.a cs')) :: L)) : CVT H t ks L G () :=
  ⟨.a cs, .a cs', cs, cs', hx, ⟨rfl, rfl⟩, hc, hg⟩
theorem rawCs_nil {rv : Nat → Value} {j : Nat} : rawCs rv j [] = [] := rfl
theorem rawCs_s {rv : Nat → Value} {j sz : Nat} {es : List (List T)} {ts : List T} : rawCs rv j (.s true sz es :: ts) = .v (rv j) :: rawCs rv (j + 1) ts := rfl
theorem rawCs_v {rv : Nat → Value} {j : Nat} {x : Value} {ts : List T} : rawCs rv j (.v x :: ts) = .v x :: rawCs rv (j + 1) ts := rfl
theorem ofL_eq : ofL = ofL := rfl
theorem take_s {α : Type} {n : Nat} {x : α} {l : List α} : List.take (n + 1) (x :: l) = x :: List.take n l := rfl
end
end Go.Abs.E
namespace Go.Abs.E
open Go Go.Abs
variable [Amb]
def strB (P : Program) (t : TypeId) : Bool := match P.underlying t with
  | some (.struct _) => true
  | _ => false
def cellB (P : Program) (t : TypeId) : Bool := match P.underlying t with
  | some (.int _) => true
  | some .bool => true
  | some (.slice _) => true
  | _ => false
theorem agg_in {P : Program} {w : World} {r : Reach} {base : Nat} {t : TypeId} {v : Value} (hs : strB P t = true) (h : Value.okWide P w r base t v) : ∃ c, v = .agg c := by
  unfold strB at hs
  unfold Value.okWide at h
  split at hs
  · rename_i fs hu
    simp only [hu] at h
    obtain ⟨cs, e, _⟩ := h
    exact ⟨cs, e⟩
  · simp at hs
theorem cell_in {P : Program} {w : World} {r : Reach} {base : Nat} {t : TypeId} {v : Value} (hs : cellB P t = true) (h : Value.okWide P w r base t v) : ∀ c, v ≠ .agg c := by
  rintro c rfl
  unfold cellB at hs
  unfold Value.okWide at h
  split at hs
  all_goals first
    | (rename_i hu; simp [hu, Cell.okWide, Cell.ok] at h; done)
    | (rename_i x hu; simp [hu, Cell.okWide, Cell.ok] at h; done)
    | (simp at hs)
end Go.Abs.E
namespace Go.Abs
open Go
variable [Amb]
section
variable {P : Program} {md : Nat → Nat → Bool} {cx : Cx} {n np : Nat} {st : St} {ops : Array Oper} {Q : Exit → Act → World → Prop}
end
theorem Step.mono {P : Program} {ops : Array Oper} {o : Oper} {a : Act} {w : World} {KC KC' : Act → World → Prop} {Q : Exit → Act → World → Prop} (hk : ∀ a' w', KC a' w' → KC' a' w') (h : Step P ops o a w KC Q) : Step P ops o a w KC' Q := by
  unfold Step at *
  split at h
  · rename_i hw
    rw [if_pos hw]
    rcases h with h | h
    · exact .inl (Oper.wp_mono hk h)
    · exact .inr h
  · rename_i hw
    rw [if_neg hw]
    exact hk _ _ h
def updH (H : K → Option Hdr) (k : K) (h : Hdr) : K → Option Hdr := fun k' => if k' = k then some h else H k'
theorem updH_same {H : K → Option Hdr} {k : K} {h : Hdr} : updH H k h k = some h := by simp [updH]
theorem updH_ne {H : K → Option Hdr} {k k' : K} {h : Hdr} (e : k' ≠ k) : updH H k h k' = H k' := by simp [updH, e]
theorem Rel.down {w0 : World} {X : Nat → Prop} {H : K → Option Hdr} {k : K} {hd : Hdr} {n : Nat} {st : St} {Hd : K → Path → Hdr} {a : Act} {w : World} (hk : H k = none) (h : Rel ⟨w0, X, updH H k hd⟩ n st Hd a w) : Rel ⟨w0, X, H⟩ n st Hd a w := by
  refine ⟨h.defers, h.size, fun t v hv => ⟨(h.slots t v hv).1, (h.slots t v hv).2.cx⟩, ⟨h.heap.rows, h.heap.inj, h.heap.blk⟩, ⟨h.keep.os, h.keep.tape, h.keep.output, h.keep.size, h.keep.block⟩, fun k' h' hk' => ?_, h.amb⟩
  refine h.hdr k' h' ?_
  by_cases e : k' = k
  · subst e
    have hk2 : H k' = some h' := hk'
    rw [hk] at hk2; simp at hk2
  · show updH H k hd k' = some h'
    rw [updH_ne e]; exact hk'
def indepL (ops : List Oper) (fs : List Foot) (m : Nat) : Bool := (List.range m).all (rowS ops fs [] (predsM ops))
section
variable {ops : Array Oper} {fs : List Foot} {m : Nat}
end
end Go.Abs
namespace Go.Abs.E
open Go Go.Abs
variable [Amb]
def INDL (os : List Oper) (m : Nat) (fs : List Foot) (_h : Hold (os, m, fs)) : Prop := indepL os fs m = true
theorem INDL.mk {os : List Oper} {m : Nat} {fs : List Foot} (h : indepL os fs m = true) : INDL os m fs () := h
def RAWI (H : K → Option Hdr) (t j : Nat) (k : K) (L : Ws) (G : (K → Option Hdr) → Ws → Prop) (_h : Hold G) : Prop :=
  ∃ cs ver len e, ofL L (.s t) = .v (.a cs) ∧ cs[j]? = some (.r k ver [] 0 len) ∧ ofL L (.k k) = .e e ∧ e.es.length = len ∧ ∀ (x : Value) (h : Hdr), Raw (updH H k h) k x len → G (updH H k h) ((.s t, .v (.a (cs.set j (.v x)))) :: L)
theorem RAWI.use {H : K → Option Hdr} {t j : Nat} {k : K} {L : Ws} {G : (K → Option Hdr) → Ws → Prop} {cs : List C} {ver len : Nat} {e : Ent} (h1 : ofL L (.s t) = .v (.a cs)) (h2 : cs[j]? = some (.r k ver [] 0 len)) (h3 : ofL L (.k k) = .e e) (h4 : e.es.length = len) (h5 : ∀ (x : Value) (h : Hdr), Raw (updH H k h) k x len → G (updH H k h) ((.s t, .v (.a (cs.set j (.v x)))) :: L)) : RAWI H t j k L G () := ⟨cs, ver, len, e, h1, h2, h3, h4, h5⟩
section
variable {H : K → Option Hdr} {P : Program} {md : Nat → Nat → Bool} {wr : Bool} {n np : Nat} {KK : KX} {L : Ws} {x y : Code}
theorem evh_ev {c : Code} (md : Nat → Nat → Bool) (wr : Bool) (hmix : P.follows .mixedOrders = true) (hd : dstsOK n c = true) (h : EV P md wr n np c L KK ()) : EVH H P n np c L KK () := by
  intro cx Hd a w hH h0 hr
  exact VC_ok hmix c L KK hd h cx Hd a w h0 hr
theorem Fn.evR {f : Nat} {fn : Func} {c : Code} {al fin res : List A} {rs : List ResultVar} {tys : List TypeId} {n : Nat} (hf : P.funcs[f]? = some fn) (hb : fn.body = some c) (hname : fn.name ≠ "runtime.NumGoroutine") (hnt : fn.ntmps = n) (hn : al.length ≤ n)
    (hr : fn.results.toList = rs) (ht : fn.resultTypes.toList = tys) (hfin : finOK fin = true) (hres : resOK res = true)
    (h : ∀ H : K → Option Hdr, EVH H P n al.length c (entryL 0 al) (fun e L => FK P rs tys al fin res e L ()) ()) : Go.Abs.Fn P f al fin res := by
  subst hnt
  refine Go.Abs.Fn.of hf hb hname hn hfin hres ?_
  rw [entrySt_eq]
  intro cx Hd a w h0 hr0
  refine wp_mono (h cx.H0 cx Hd a w rfl h0 hr0) ?_
  rintro e a' w' ⟨st', Hd', ⟨L', rfl, h1, h2⟩, h3⟩
  refine ⟨_, Hd', ⟨h1, ?_⟩, h3⟩
  unfold ExitOK
  rw [hr, ht]
  exact M.wq_wp _ _ h2
end
end Go.Abs.E

/- A small abstract machine over the kit's wp, part of it: states of slots and owned rows, and what each operation does to them. No condition. -/
import Derived.Test.YtijifinpifomcaaMachFour
set_option linter.unusedVariables false
set_option linter.unusedSimpArgs false
set_option linter.constructorNameAsVariable false
set_option linter.unusedSectionVars false
namespace Go.Abs.E
open Go Go.Abs
variable [Amb]
section
variable {P : Program} {md : Nat → Nat → Bool} {dr wr : Bool} {st : St} {rs : List Loc} {K : List Loc → Ws → Prop} {d : Tmp} {ty : TypeId} {pos : String} {aft : Array Edge} {g : Option (Nat × Bool)}
theorem q_convert {s t : TypeId} {x : Operand} : WQ P dr (opM2 P md wr ⟨some d, .convert s t x, ty, pos, aft, g⟩) st rs K () = WQ P dr (match P.underlying s, P.underlying t with
    | some (.int _), some (.int k) => getO x fun x => match x with
      | .c (.v (.int _ m)) => M.ret [(.s d, .v (.c (.v (.int k (k.wrap m)))))]
      | _ => .bad
    | _, _ => convS P s t x (some d)) st rs K () := by cases wr <;> rfl
theorem q_cap {x : Operand} {t : TypeId} : WQ P dr (opM2 P md wr ⟨some d, .call ⟨.builtin .cap, #[x], #[t]⟩, ty, pos, aft, g⟩) st rs K () = WQ P dr (match elemOf P t with
        | some _ => getO x fun x => match x with
          | .c .n => M.ret [(.s d, .v (.c (.v (.int .i64 0))))]
          | _ => .bad
        | none => .bad) st rs K () := by cases wr <;> rfl
theorem q_clear {x : Operand} {t : TypeId} : WQ P dr (opM2 P md wr ⟨none, .call ⟨.builtin .clear, #[x], #[t]⟩, ty, pos, aft, g⟩) st rs K () = WQ P dr (match elemOf P t with
        | some el => match zeroOf P el, szOf P el with
          | some z, some n => getO x fun x => match x with
            | .c (.r k _ p off len) => getE [] k fun e => .req (p = [] ∧ e.sz = n ∧ n ≠ 0 ∧ off + len ≤ e.es.length ∧ scalEs e.es = true ∧ z.all T.isV = true ∧ z.all T.one = true) (.ret [(.k k, .e ⟨e.ver, e.sz, e.es.take off ++ (List.replicate len z ++ e.es.drop (off + len))⟩)])
            | _ => .bad
          | _, _ => .bad
        | none => .bad) st rs K () := by cases wr <;> rfl
end
end Go.Abs.E
namespace Go.Abs
open Go
variable [Amb]
namespace E
variable {P : Program}
end E
end Go.Abs
namespace Go.Abs
open Go
variable [Amb]
namespace E
theorem INDEP.mk2 {P : Program} {md : Nat → Nat → Bool} {wr : Bool} {os : List Oper} {L : Ws} {fs : List Foot} (h : indepM os fs = true) : INDEP P md wr os L fs () := .inl (indepM_ok h)
end E
end Go.Abs
namespace Go.Abs
open Go
variable [Amb]
def E.argsH (P : Program) (md : Nat → Bool) (n : Nat) (ac : Acc) (tys : List TypeId) (vs : List V) (f : Acc → List A → M) (_ : E.Hold f) : M := argsA P md n ac tys vs f
def E.argH (own : Bool) (n : Nat) (ac : Acc) (ks : Option (List (Option Nat))) (v : V) (f : Acc → A → M) (_ : E.Hold f) : M := match v, ks with
  | .c c, some [kd] => cellA own n 0 ac kd c fun ac t => f ac (.c t)
  | .a cs, some ks => cellsA own n 0 ac ks cs fun ac ts => f ac (.a ts)
  | .f fn caps, _ => capsA ac.1 caps fun as => f ac (.f fn as)
  | .p k ver p i off, _ => .req (own = true ∧ p = [] ∧ i = 0 ∧ off = 0) (cellA true n 0 ac none (.r k ver [] 0 1) fun ac t => match t with
    | .s true sz es => f ac (.p sz es)
    | _ => .bad)
  | _, _ => .bad
def ptrH (f : Acc → A → M) (ac : Acc) (t : T) : M := match t with
  | .s true sz es => f ac (.p sz es)
  | _ => .bad
theorem ptrH_s (f : Acc → A → M) (ac : Acc) (sz : Nat) (es : List (List T)) : ptrH f ac (.s true sz es) = f ac (.p sz es) := rfl
def E.cellsH (own : Bool) (n j : Nat) (ac : Acc) (ks : List (Option Nat)) (cs : List C) (f : Acc → List T → M) (_ : E.Hold f) : M := cellsA own n j ac ks cs f
def E.cellH (own : Bool) (n j : Nat) (ac : Acc) (kd : Option Nat) (c : C) (f : Acc → T → M) (_ : E.Hold f) : M := cellA own n j ac kd c f
theorem E.argsA_h (P : Program) (md : Nat → Bool) (n : Nat) (ac : Acc) (tys : List TypeId) (vs : List V) (f : Acc → List A → M) : argsA P md n ac tys vs f = E.argsH P md n ac tys vs f () := rfl
theorem E.argsH_nil (P : Program) (md : Nat → Bool) (n : Nat) (ac : Acc) (f : Acc → List A → M) : E.argsH P md n ac [] [] f () = f ac [] := rfl
theorem E.argsH_cons (P : Program) (md : Nat → Bool) (n : Nat) (ac : Acc) (ty : TypeId) (tys : List TypeId) (v : V) (vs : List V) (f : Acc → List A → M) : E.argsH P md n ac (ty :: tys) (v :: vs) f () = E.argH (md n) n ac (kinds P 12 ty) v (fun ac a => E.argsH P md (n + 1) ac tys vs (fun ac as => f ac (a :: as)) ()) () := by
  unfold E.argsH E.argH; rw [argsA]; rfl
theorem E.argH_c (own : Bool) (n : Nat) (ac : Acc) (kd : Option Nat) (c : C) (f : Acc → A → M) : E.argH own n ac (some [kd]) (.c c) f () = E.cellH own n 0 ac kd c (fun ac t => f ac (.c t)) () := rfl
theorem E.argH_a (own : Bool) (n : Nat) (ac : Acc) (ks : List (Option Nat)) (cs : List C) (f : Acc → A → M) : E.argH own n ac (some ks) (.a cs) f () = E.cellsH own n 0 ac ks cs (fun ac ts => f ac (.a ts)) () := rfl
theorem E.argH_p (own : Bool) (n : Nat) (ac : Acc) (ks : Option (List (Option Nat))) (k : K) (ver : Nat) (p : Path) (i off : Nat) (f : Acc → A → M) : E.argH own n ac ks (.p k ver p i off) f () = .req (own = true ∧ p = [] ∧ i = 0 ∧ off = 0) (E.cellH true n 0 ac none (.r k ver [] 0 1) (ptrH f) ()) := by
  cases ks with
  | none => rfl
  | some ks => rcases ks with _ | ⟨_, _ | _⟩ <;> rfl
theorem E.argH_f (own : Bool) (n : Nat) (ac : Acc) (ks : Option (List (Option Nat))) (fn : FuncId) (caps : List V) (f : Acc → A → M) : E.argH own n ac ks (.f fn caps) f () = capsA ac.1 caps (fun as => f ac (.f fn as)) := rfl
theorem E.cellsH_nil (own : Bool) (n j : Nat) (ac : Acc) (f : Acc → List T → M) : E.cellsH own n j ac [] [] f () = f ac [] := rfl
theorem E.cellsH_cons (own : Bool) (n j : Nat) (ac : Acc) (kd : Option Nat) (ks : List (Option Nat)) (c : C) (cs : List C) (f : Acc → List T → M) : E.cellsH own n j ac (kd :: ks) (c :: cs) f () = E.cellH own n j ac kd c (fun ac t => E.cellsH own n (j + 1) ac ks cs (fun ac ts => f ac (t :: ts)) ()) () := rfl
theorem E.cellH_v (own : Bool) (n j : Nat) (ac : Acc) (kd : Option Nat) (x : Value) (f : Acc → T → M) : E.cellH own n j ac kd (.v x) f () = f ac (.v x) := rfl
theorem E.cellH_b (n j : Nat) (ac : Acc) (kd : Option Nat) (sz : Nat) (es : List (List T)) (f : Acc → T → M) : E.cellH false n j ac kd (.b sz es) f () = f ac (.s false sz es) := rfl
theorem E.cellH_n (n j : Nat) (ac : Acc) (m : Nat) (f : Acc → T → M) : E.cellH false n j ac (some m) .n f () = f ac (.s false m []) := rfl
theorem E.cellH_nt (n j : Nat) (ac : Acc) (kd : Option Nat) (f : Acc → T → M) : E.cellH true n j ac kd .n f () = f ac (.v (.slice none 0 0)) := by cases kd <;> rfl
theorem E.cellH_u (n j : Nat) (ac : Acc) (kd : Option Nat) (f : Acc → T → M) : E.cellH false n j ac kd .u f () = f ac .d := rfl
theorem E.cellH_rt (n j : Nat) (ac : Acc) (kd : Option Nat) (k : K) (ver : Nat) (p : Path) (off len : Nat) (f : Acc → T → M) : E.cellH true n j ac kd (.r k ver p off len) f () = getR ac.1 k ver p fun e sz es => .req (off = 0 ∧ len = es.length ∧ ownEs es = true) (f (gone k p e :: ac.1, ⟨n, j, k, e.ver, p, sz, es.length⟩ :: ac.2) (.s true sz es)) := rfl
theorem E.cellH_rf (n j : Nat) (ac : Acc) (kd : Option Nat) (k : K) (ver : Nat) (p : Path) (off len : Nat) (f : Acc → T → M) : E.cellH false n j ac kd (.r k ver p off len) f () = getR ac.1 k ver p fun e sz es => .req (off + len ≤ es.length) (f ac (.s false sz (borEs ((es.drop off).take len)))) := rfl
end Go.Abs
namespace Go.Abs
open Go
variable [Amb]
def Raw (H : K → Option Hdr) (k : K) (x : Value) (len : Nat) : Prop :=
  ∃ (a : Option Addr) (cap : Nat) (h : Hdr), x = .slice a len cap ∧ H k = some h ∧ len ≤ cap ∧ (cap ≠ 0 → a = some ⟨h.b, h.o, none⟩ ∧ cap ≤ h.cap)
theorem Raw.one {H : K → Option Hdr} {k : K} {x : Value} {len : Nat} (h : Raw H k x len) : x.oneCell' = true := by
  obtain ⟨a, cap, hh, rfl, _⟩ := h
  rfl
theorem known_slot {st : St} {t : Nat} {v : V} {k : K} : app [(.s t, .v v)] st (.k k) = st (.k k) := by
  simp [app, ovl]
theorem COK.slot {cx : Cx} {st : St} {Hd : K → Path → Hdr} {t : Nat} {v' : V} {c : C} {y : Value} (h : COK cx st Hd c y) : COK cx (app [(.s t, .v v')] st) Hd c y := by
  refine h.mono (fun k ver hk => ?_) (fun k ver p sz es hd hk hv => ?_)
  · unfold known at *; rw [known_slot]; exact hk
  · refine ⟨es, ?_, rfl⟩
    unfold valid at *; rw [known_slot] at hv; exact hv
theorem VOK.slot {cx : Cx} {st : St} {Hd : K → Path → Hdr} {t : Nat} {v' : V} {v : V} {y : Value} (h : VOK cx st Hd v y) : VOK cx (app [(.s t, .v v')] st) Hd v y := by
  refine h.mono (fun k ver hk => ?_) (fun k ver p sz es hd hk hv => ?_)
  · unfold known at *; rw [known_slot]; exact hk
  · refine ⟨es, ?_, rfl⟩
    unfold valid at *; rw [known_slot] at hv; exact hv
theorem Rel.slot {cx : Cx} {n : Nat} {st : St} {Hd : K → Path → Hdr} {a : Act} {w : World} (h : Rel cx n st Hd a w) {t : Nat} {v v' : V} (hs : st (.s t) = .v v) (hv : ∀ y, VOK cx st Hd v y → VOK cx st Hd v' y) : Rel cx n (app [(.s t, .v v')] st) Hd a w := by
  refine ⟨h.defers, h.size, fun t' u hu => ?_, ?_, h.keep, fun k hh hk => ?_, h.amb⟩
  · by_cases ht : t' = t
    · subst ht
      have : v' = u := by simpa [app, ovl] using hu
      subst this
      obtain ⟨h1, h2⟩ := h.slots t' v hs
      exact ⟨h1, (hv _ h2).slot⟩
    · have : st (.s t') = .v u := by
        have hne : ¬ t = t' := fun e => ht e.symm
        simpa [app, ovl, hne, ht] using hu
      obtain ⟨h1, h2⟩ := h.slots t' u this
      exact ⟨h1, h2.slot⟩
  · have e : HeapOf (app [(.s t, .v v')] st) Hd = HeapOf st Hd := by
      funext i
      cases i with
      | inl k => simp only [HeapOf, known_slot]
      | inr _ => rfl
    rw [e]; exact h.heap
  · rw [known_slot]; exact h.hdr k hh hk
def AWh (H : K → Option Hdr) (P : Program) (n np : Nat) (c : Code) (st : St) (Q : Exit → St → Prop) : Prop :=
  ∀ (cx : Cx) (Hd : K → Path → Hdr) (a : Act) (w : World), cx.H0 = H → (∀ k h, cx.H0 k = some h → k.1 < np) → Rel cx n st Hd a w → c.wp P (fun e a' w' => ∃ st' Hd', Q e st' ∧ Rel cx n st' Hd' a' w') a w
section
variable {H : K → Option Hdr} {P : Program} {md : Nat → Nat → Bool} {wr : Bool} {n np : Nat}
end
end Go.Abs
namespace Go.Abs.E
open Go Go.Abs
variable [Amb]
def EVH (H : K → Option Hdr) (P : Program) (n np : Nat) (c : Code) (L : Ws) (KK : KX) (_h : Hold (H, P, n, np, c, KK)) : Prop :=
  AWh H P n np c (ofL L) fun e st => ∃ L', st = ofL L' ∧ KK e L'
section
variable {H : K → Option Hdr} {P : Program} {md : Nat → Nat → Bool} {wr : Bool} {n np : Nat} {KK : KX} {L : Ws} {x y : Code}
theorem evh_seq (h : EVH H P n np x L (fun e L' => match e with | .normal => EVH H P n np y L' KK () | e => KK e L') ()) : EVH H P n np (.seq x y) L KK () := by
  intro cx Hd a w hH h0 hr
  refine wp_seq (wp_mono (h cx Hd a w hH h0 hr) ?_)
  rintro e a' w' ⟨st', Hd', ⟨L', rfl, h1⟩, h2⟩
  cases e with
  | normal => exact h1 cx Hd' a' w' hH h0 h2
  | _ => exact ⟨_, Hd', ⟨L', rfl, h1⟩, h2⟩
theorem evh_ret (h : KK .ret L) : EVH H P n np .ret L KK () := fun cx Hd a w _ _ hr => wp_ret ⟨_, Hd, ⟨L, rfl, h⟩, hr⟩
end
end Go.Abs.E
namespace Go.Abs.E
open Go Go.Abs
variable [Amb]
section
variable {H : K → Option Hdr} {L : Ws} {G : Ws → Prop} {t : Nat}
theorem ofL_eq : ofL = ofL := rfl
end
end Go.Abs.E
namespace Go.Abs.E
open Go Go.Abs
variable [Amb]
def strB (P : Program) (t : TypeId) : Bool := match P.underlying t with
  | some (.struct _) => true
  | _ => false
def cellB (P : Program) (t : TypeId) : Bool := match P.underlying t with
  | some (.int _) => true
  | some .bool => true
  | some (.slice _) => true
  | _ => false
theorem agg_in {P : Program} {w : World} {r : Reach} {base : Nat} {t : TypeId} {v : Value} (hs : strB P t = true) (h : Value.okWide P w r base t v) : ∃ c, v = .agg c := by
  unfold strB at hs
  unfold Value.okWide at h
  split at hs
  · rename_i fs hu
    simp only [hu] at h
    obtain ⟨cs, e, _⟩ := h
    exact ⟨cs, e⟩
  · simp at hs
theorem cell_in {P : Program} {w : World} {r : Reach} {base : Nat} {t : TypeId} {v : Value} (hs : cellB P t = true) (h : Value.okWide P w r base t v) : ∀ c, v ≠ .agg c := by
  rintro c rfl
  unfold cellB at hs
  unfold Value.okWide at h
  split at hs
  all_goals first
    | (rename_i hu; simp [hu, Cell.okWide, Cell.ok] at h; done)
    | (rename_i x hu; simp [hu, Cell.okWide, Cell.ok] at h; done)
    | (simp at hs)
end Go.Abs.E
namespace Go.Abs
open Go
variable [Amb]
section
variable {P : Program} {md : Nat → Nat → Bool} {cx : Cx} {n np : Nat} {st : St} {ops : Array Oper} {Q : Exit → Act → World → Prop}
end
theorem Step.mono {P : Program} {ops : Array Oper} {o : Oper} {a : Act} {w : World} {KC KC' : Act → World → Prop} {Q : Exit → Act → World → Prop} (hk : ∀ a' w', KC a' w' → KC' a' w') (h : Step P ops o a w KC Q) : Step P ops o a w KC' Q := by
  unfold Step at *
  split at h
  · rename_i hw
    rw [if_pos hw]
    rcases h with h | h
    · exact .inl (Oper.wp_mono hk h)
    · exact .inr h
  · rename_i hw
    rw [if_neg hw]
    exact hk _ _ h
def updH (H : K → Option Hdr) (k : K) (h : Hdr) : K → Option Hdr := fun k' => if k' = k then some h else H k'
theorem updH_ne {H : K → Option Hdr} {k k' : K} {h : Hdr} (e : k' ≠ k) : updH H k h k' = H k' := by simp [updH, e]
theorem Rel.down {w0 : World} {X : Nat → Prop} {H : K → Option Hdr} {k : K} {hd : Hdr} {n : Nat} {st : St} {Hd : K → Path → Hdr} {a : Act} {w : World} (hk : H k = none) (h : Rel ⟨w0, X, updH H k hd⟩ n st Hd a w) : Rel ⟨w0, X, H⟩ n st Hd a w := by
  refine ⟨h.defers, h.size, fun t v hv => ⟨(h.slots t v hv).1, (h.slots t v hv).2.cx⟩, ⟨h.heap.rows, h.heap.inj, h.heap.blk⟩, ⟨h.keep.os, h.keep.tape, h.keep.output, h.keep.size, h.keep.block⟩, fun k' h' hk' => ?_, h.amb⟩
  refine h.hdr k' h' ?_
  by_cases e : k' = k
  · subst e
    have hk2 : H k' = some h' := hk'
    rw [hk] at hk2; simp at hk2
  · show updH H k hd k' = some h'
    rw [updH_ne e]; exact hk'
def indepL (ops : List Oper) (fs : List Foot) (m : Nat) : Bool := (List.range m).all (rowS ops fs [] (predsM ops))
section
variable {ops : Array Oper} {fs : List Foot} {m : Nat}
end
end Go.Abs
namespace Go.Abs.E
open Go Go.Abs
variable [Amb]
def INDL (os : List Oper) (m : Nat) (fs : List Foot) (_h : Hold (os, m, fs)) : Prop := indepL os fs m = true
theorem INDL.mk {os : List Oper} {m : Nat} {fs : List Foot} (h : indepL os fs m = true) : INDL os m fs () := h
def RAWI (H : K → Option Hdr) (t j : Nat) (k : K) (L : Ws) (G : (K → Option Hdr) → Ws → Prop) (_h : Hold G) : Prop :=
  ∃ cs ver len e, ofL L (.s t) = .v (.a cs) ∧ cs[j]? = some (.r k ver [] 0 len) ∧ ofL L (.k k) = .e e ∧ e.es.length = len ∧ ∀ (x : Value) (h : Hdr), Raw (updH H k h) k x len → G (updH H k h) ((.s t, .v (.a (cs.set j (.v x)))) :: L)
theorem RAWI.use {H : K → Option Hdr} {t j : Nat} {k : K} {L : Ws} {G : (K → Option Hdr) → Ws → Prop} {cs : List C} {ver len : Nat} {e : Ent} (h1 : ofL L (.s t) = .v (.a cs)) (h2 : cs[j]? = some (.r k ver [] 0 len)) (h3 : ofL L (.k k) = .e e) (h4 : e.es.length = len) (h5 : ∀ (x : Value) (h : Hdr), Raw (updH H k h) k x len → G (updH H k h) ((.s t, .v (.a (cs.set j (.v x)))) :: L)) : RAWI H t j k L G () := ⟨cs, ver, len, e, h1, h2, h3, h4, h5⟩
section
variable {H : K → Option Hdr} {P : Program} {md : Nat → Nat → Bool} {wr : Bool} {n np : Nat} {KK : KX} {L : Ws} {x y : Code}
theorem evh_ev {c : Code} (md : Nat → Nat → Bool) (wr : Bool) (hmix : P.follows .mixedOrders = true) (hd : dstsOK n c = true) (h : EV P md wr n np c L KK ()) : EVH H P n np c L KK () := by
  intro cx Hd a w hH h0 hr
  exact VC_ok hmix c L KK hd h cx Hd a w h0 hr
theorem Fn.evR {f : Nat} {fn : Func} {c : Code} {al fin res : List A} {rs : List ResultVar} {tys : List TypeId} {n : Nat} (hf : P.funcs[f]? = some fn) (hb : fn.body = some c) (hname : fn.name ≠ "runtime.NumGoroutine") (hnt : fn.ntmps = n) (hn : al.length ≤ n)
    (hr : fn.results.toList = rs) (ht : fn.resultTypes.toList = tys) (hfin : finOK fin = true) (hres : resOK res = true)
    (h : ∀ H : K → Option Hdr, EVH H P n al.length c (entryL 0 al) (fun e L => FK P rs tys al fin res e L ()) ()) : Go.Abs.Fn P f al fin res := by
  subst hnt
  refine Go.Abs.Fn.of hf hb hname hn hfin hres ?_
  rw [entrySt_eq]
  intro cx Hd a w h0 hr0
  refine wp_mono (h cx.H0 cx Hd a w rfl h0 hr0) ?_
  rintro e a' w' ⟨st', Hd', ⟨L', rfl, h1, h2⟩, h3⟩
  refine ⟨_, Hd', ⟨h1, ?_⟩, h3⟩
  unfold ExitOK
  rw [hr, ht]
  exact M.wq_wp _ _ h2
end
end Go.Abs.E

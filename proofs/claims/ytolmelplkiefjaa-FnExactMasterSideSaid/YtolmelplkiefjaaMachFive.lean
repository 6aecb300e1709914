/- A small abstract machine over the kit's wp, part of it: states of slots and owned rows, and what each operation does to them. No condition. -/
import Derived.Test.YtolmelplkiefjaaMachFour
set_option linter.unusedVariables false
set_option linter.unusedSimpArgs false
set_option linter.constructorNameAsVariable false
namespace Go.Abs
open Go

variable {P : Program} {md : Nat → Nat → Bool}

theorem M.wp_mono {st : St} : ∀ (m : M) {K K' : Ws → Prop}, m.wp P st K → (∀ ws, K ws → K' ws) → m.wp P st K'
  | .ret ws, K, K', h, hk => hk _ h
  | .get l f, K, K', h, hk => M.wp_mono (f (st l)) h hk
  | .req p m, K, K', h, hk => ⟨h.1, M.wp_mono m h.2 hk⟩
  | .any f, K, K', h, hk => fun b => M.wp_mono (f b) (h b) hk
  | .call f as k, K, K', h, hk => by
    obtain ⟨fin, res, h1, h2⟩ := h
    exact ⟨fin, res, h1, M.wp_mono (k fin res) h2 hk⟩
  | .bad, K, K', h, hk => h.elim

theorem M.wpR_mono {st : St} : ∀ (m : M) {rs : List Loc} {K K' : List Loc → Ws → Prop}, m.wpR P st rs K → (∀ rs ws, K rs ws → K' rs ws) → m.wpR P st rs K'
  | .ret ws, rs, K, K', h, hk => hk _ _ h
  | .get l f, rs, K, K', h, hk => M.wpR_mono (f (st l)) h hk
  | .req p m, rs, K, K', h, hk => ⟨h.1, M.wpR_mono m h.2 hk⟩
  | .any f, rs, K, K', h, hk => h.elim
  | .call f as k, rs, K, K', h, hk => by
    obtain ⟨fin, res, h1, h2⟩ := h
    exact ⟨fin, res, h1, M.wpR_mono (k fin res) h2 hk⟩
  | .bad, rs, K, K', h, hk => h.elim

/-- within the width of an int -/
def in64 (n : Int) : Prop := -9223372036854775808 ≤ n ∧ n ≤ 9223372036854775807

/-- arithmetic that stays within the width -/
def bin2 (P : Program) (op : BinOp) (t : TypeId) (x y : V) (k : V → M) : M := match op, x, y with
  | .add, .c (.v (.int .i64 m)), .c (.v (.int .i64 n)) => .req (in64 (m + n)) (k (.c (.v (.int .i64 (m + n)))))
  | .sub, .c (.v (.int .i64 m)), .c (.v (.int .i64 n)) => .req (in64 (m - n)) (k (.c (.v (.int .i64 (m - n)))))
  | .mul, .c (.v (.int .i64 m)), .c (.v (.int .i64 n)) => .req (in64 (m * n)) (k (.c (.v (.int .i64 (m * n)))))
  | _, x, y => binM P op t x y k

def opM2 (P : Program) (md : Nat → Nat → Bool) (wr : Bool) (o : Oper) : M := match wr, o.op with
  | false, .binOp op t x y _ => getO x fun x => getO y fun y => bin2 P op t x y fun v => put o.dst v []
  | _, _ => opM P md o

def guM (t : Option Tmp) (want : Bool) (d : Option Tmp) (m : M) : M := match t with
  | some t => .get (.s t) fun
    | .v (.c (.v (.bool b))) => if b = want then m else (match d with
      | some d => .ret [(.s d, .v .u)]
      | none => .ret [])
    | .v .u => (match d with
      | some d => .ret [(.s d, .v .u)]
      | none => .ret [])
    | _ => .bad
  | none => .bad

def dstAt : List Oper → Nat → Option Tmp
  | [], _ => none
  | o :: _, 0 => o.dst
  | _ :: os, n + 1 => dstAt os n

theorem dstAt_eq : ∀ (ops : List Oper) (j : Nat), dstAt ops j = (ops[j]?).bind (·.dst)
  | [], _ => rfl
  | o :: _, 0 => rfl
  | _ :: os, n + 1 => by rw [dstAt, dstAt_eq os n, List.getElem?_cons_succ]

def operM2 (P : Program) (md : Nat → Nat → Bool) (wr : Bool) (ops : List Oper) (o : Oper) : M := match o.guard with
  | none => opM2 P md wr o
  | some (j, want) => guM (dstAt ops j) want o.dst (opM2 P md wr o)

theorem getO_wp {st : St} {x : Operand} {k : V → M} {K : Ws → Prop} (h : (getO x k).wp P st K) (k' : V → M) (hk : ∀ v, (k v).wp P st K → (k' v).wp P st K) : (getO x k').wp P st K := by
  cases x with
  | tmp t =>
    simp only [getO, M.wp] at h ⊢
    cases hs : st (.s t) with
    | v v => rw [hs] at h; exact hk v h
    | e e => rw [hs] at h; exact h.elim
    | gone => rw [hs] at h; exact h.elim
    | none => rw [hs] at h; exact h.elim
  | const v => exact hk _ h
  | func f => exact hk _ h
  | global g => exact h.elim

theorem getO_wpR {st : St} {x : Operand} {k : V → M} {rs : List Loc} {K : List Loc → Ws → Prop} (h : (getO x k).wpR P st rs K) (k' : V → M) (hk : ∀ v rs, (k v).wpR P st rs K → (k' v).wpR P st rs K) : (getO x k').wpR P st rs K := by
  cases x with
  | tmp t =>
    simp only [getO, M.wpR] at h ⊢
    cases hs : st (.s t) with
    | v v => rw [hs] at h; exact hk v _ h
    | e e => rw [hs] at h; exact h.elim
    | gone => rw [hs] at h; exact h.elim
    | none => rw [hs] at h; exact h.elim
  | const v => exact hk _ _ h
  | func f => exact hk _ _ h
  | global g => exact h.elim

theorem bin2_wp {st : St} {op : BinOp} {t : TypeId} {x y : V} {k : V → M} {K : Ws → Prop} (h : (bin2 P op t x y k).wp P st K) : (binM P op t x y k).wp P st K := by
  unfold bin2 at h
  split at h
  · obtain ⟨h1, h2⟩ := h
    simp only [binM, if_true, intBin]; rw [IntWalk.i64_in _ h1]; exact h2
  · obtain ⟨h1, h2⟩ := h
    simp only [binM, if_true, intBin]; rw [IntWalk.i64_in _ h1]; exact h2
  · obtain ⟨h1, h2⟩ := h
    simp only [binM, if_true, intBin]; rw [IntWalk.i64_in _ h1]; exact h2
  · exact h

theorem bin2_wpR {st : St} {op : BinOp} {t : TypeId} {x y : V} {k : V → M} {rs : List Loc} {K : List Loc → Ws → Prop} (h : (bin2 P op t x y k).wpR P st rs K) : (binM P op t x y k).wpR P st rs K := by
  unfold bin2 at h
  split at h
  · obtain ⟨h1, h2⟩ := h
    simp only [binM, if_true, intBin]; rw [IntWalk.i64_in _ h1]; exact h2
  · obtain ⟨h1, h2⟩ := h
    simp only [binM, if_true, intBin]; rw [IntWalk.i64_in _ h1]; exact h2
  · obtain ⟨h1, h2⟩ := h
    simp only [binM, if_true, intBin]; rw [IntWalk.i64_in _ h1]; exact h2
  · exact h

theorem opM2_wp {st : St} {wr : Bool} {o : Oper} {K : Ws → Prop} (h : (opM2 P md wr o).wp P st K) : (opM P md o).wp P st K := by
  unfold opM2 at h
  split at h
  · rename_i op t x y yt ho
    simp only [opM, ho]
    exact getO_wp h _ fun v h => getO_wp h _ fun y2 h => bin2_wp h
  · exact h

theorem opM2_wpR {st : St} {wr : Bool} {o : Oper} {rs : List Loc} {K : List Loc → Ws → Prop} (h : (opM2 P md wr o).wpR P st rs K) : (opM P md o).wpR P st rs K := by
  unfold opM2 at h
  split at h
  · rename_i op t x y yt ho
    simp only [opM, ho]
    exact getO_wpR h _ fun v _ h => getO_wpR h _ fun y2 _ h => bin2_wpR h
  · exact h

theorem operM2_wp {st : St} {wr : Bool} {ops : List Oper} {o : Oper} {K : Ws → Prop} (h : (operM2 P md wr ops o).wp P st K) : (operM P md ops o).wp P st K := by
  unfold operM2 at h
  unfold operM
  cases hg : o.guard with
  | none => simp only [hg] at h ⊢; exact opM2_wp h
  | some jw =>
    obtain ⟨j, want⟩ := jw
    simp only [hg, dstAt_eq] at h ⊢
    generalize (ops[j]?).bind (fun x => x.dst) = z at h ⊢
    cases z with
    | none => exact h.elim
    | some t =>
      simp only [guM, M.wp] at h ⊢
      generalize st (.s t) = x at h ⊢
      revert h
      split
      · rename_i b
        try simp only []
        by_cases hb : b = want
        · rw [if_pos hb, if_pos hb]; exact opM2_wp
        · rw [if_neg hb, if_neg hb]; exact id
      · exact id
      · exact fun h => h.elim

theorem operM2_wpR {st : St} {wr : Bool} {ops : List Oper} {o : Oper} {rs : List Loc} {K : List Loc → Ws → Prop} (h : (operM2 P md wr ops o).wpR P st rs K) : (operM P md ops o).wpR P st rs K := by
  unfold operM2 at h
  unfold operM
  cases hg : o.guard with
  | none => simp only [hg] at h ⊢; exact opM2_wpR h
  | some jw =>
    obtain ⟨j, want⟩ := jw
    simp only [hg, dstAt_eq] at h ⊢
    generalize (ops[j]?).bind (fun x => x.dst) = z at h ⊢
    cases z with
    | none => exact h.elim
    | some t =>
      simp only [guM, M.wpR] at h ⊢
      generalize st (.s t) = x at h ⊢
      revert h
      split
      · rename_i b
        try simp only []
        by_cases hb : b = want
        · rw [if_pos hb, if_pos hb]; exact opM2_wpR
        · rw [if_neg hb, if_neg hb]; exact id
      · exact id
      · exact fun h => h.elim

/-- one run of a program, what it read kept -/
def M.wq (P : Program) (dr : Bool) : M → St → List Loc → (List Loc → Ws → Prop) → Prop
  | .ret ws, _, rs, K => K rs ws
  | .get l f, st, rs, K => (f (st l)).wq P dr st (l :: rs) K
  | .req p m, st, rs, K => p ∧ m.wq P dr st rs K
  | .any f, st, rs, K => dr = false ∧ ∀ b, (f b).wq P dr st rs K
  | .call f as k, st, rs, K => ∃ fin res, Fn P f as fin res ∧ (k fin res).wq P dr st rs K
  | .bad, _, _, _ => False

theorem M.wq_wp {st : St} {K : Ws → Prop} : ∀ (m : M) (rs : List Loc), m.wq P false st rs (fun _ ws => K ws) → m.wp P st K
  | .ret ws, rs, h => h
  | .get l f, rs, h => M.wq_wp (f (st l)) _ h
  | .req p m, rs, h => ⟨h.1, M.wq_wp m _ h.2⟩
  | .any f, rs, h => fun b => M.wq_wp (f b) _ (h.2 b)
  | .call f as k, rs, h => by
    obtain ⟨fin, res, h1, h2⟩ := h
    exact ⟨fin, res, h1, M.wq_wp (k fin res) _ h2⟩
  | .bad, rs, h => h.elim

theorem M.wq_wpR {st : St} {K : List Loc → Ws → Prop} : ∀ (m : M) (rs : List Loc), m.wq P true st rs K → m.wpR P st rs K
  | .ret ws, rs, h => h
  | .get l f, rs, h => M.wq_wpR (f (st l)) _ h
  | .req p m, rs, h => ⟨h.1, M.wq_wpR m _ h.2⟩
  | .any f, rs, h => absurd h.1 (by simp)
  | .call f as k, rs, h => by
    obtain ⟨fin, res, h1, h2⟩ := h
    exact ⟨fin, res, h1, M.wq_wpR (k fin res) _ h2⟩
  | .bad, rs, h => h.elim

theorem M.wq_mono {dr : Bool} {st : St} : ∀ (m : M) {rs : List Loc} {K K' : List Loc → Ws → Prop}, m.wq P dr st rs K → (∀ rs ws, K rs ws → K' rs ws) → m.wq P dr st rs K'
  | .ret ws, rs, K, K', h, hk => hk _ _ h
  | .get l f, rs, K, K', h, hk => M.wq_mono (f (st l)) h hk
  | .req p m, rs, K, K', h, hk => ⟨h.1, M.wq_mono m h.2 hk⟩
  | .any f, rs, K, K', h, hk => ⟨h.1, fun b => M.wq_mono (f b) (h.2 b) hk⟩
  | .call f as k, rs, K, K', h, hk => by
    obtain ⟨fin, res, h1, h2⟩ := h
    exact ⟨fin, res, h1, M.wq_mono (k fin res) h2 hk⟩
  | .bad, rs, K, K', h, hk => h.elim

/-- a region's operations in the text's order, their footprints kept -/
def RG (P : Program) (md : Nat → Nat → Bool) (wr dr : Bool) (ops : List Oper) : List Oper → Ws → List Foot → (Ws → List Foot → Prop) → Prop
  | [], L, acc, K => K L acc
  | o :: rest, L, acc, K => (operM2 P md wr ops o).wq P dr (ofL L) [] fun rs ws => RG P md wr dr ops rest (ws ++ L) (acc ++ [⟨rs, ws.map (·.1)⟩]) K

theorem RG_opsM {wr : Bool} {ops : Array Oper} {Ko : St → Prop} : ∀ (m : Nat) (rest : List Oper) (L : Ws) (acc : List Foot), ops.toList.drop m = rest → RG P md wr false ops.toList rest L acc (fun L _ => Ko (ofL L)) → opsM P md ops ((List.range' m (ops.size - m))) (ofL L) Ko
  | m, [], L, acc, hd, h => by
    have : ops.size - m = 0 := by
      have := congrArg List.length hd
      simp at this; omega
    rw [this]; exact h
  | m, o :: rest, L, acc, hd, h => by
    have hm : m < ops.size := by
      have := congrArg List.length hd
      simp at this; omega
    have ho : ops[m]? = some o := by
      have : (ops.toList.drop m)[0]? = some o := by rw [hd]; rfl
      simpa using this
    rw [show ops.size - m = (ops.size - (m + 1)) + 1 by omega, List.range'_succ]
    simp only [opsM, ho]
    refine M.wp_mono _ (operM2_wp (wr := wr) (M.wq_wp (K := fun ws => opsM P md ops (List.range' (m + 1) (ops.size - (m + 1))) (ofL (ws ++ L)) Ko) _ [] (M.wq_mono _ h fun rs ws hw => ?_))) fun ws hw => by rw [app_ofL]; exact hw
    refine RG_opsM (m + 1) rest (ws ++ L) _ ?_ hw
    have h9 := congrArg (List.drop 1) hd
    rw [List.drop_drop, List.drop_succ_cons, List.drop_zero] at h9
    exact h9

theorem RG_opsR {wr : Bool} {ops : Array Oper} {Ko : St → List Foot → Prop} : ∀ (rest : List Oper) (L : Ws) (acc : List Foot), RG P md wr true ops.toList rest L acc (fun L fs => Ko (ofL L) fs) → opsR P md ops rest (ofL L) acc Ko
  | [], L, acc, h => h
  | o :: rest, L, acc, h => by
    simp only [opsR]
    refine M.wpR_mono _ (operM2_wpR (M.wq_wpR _ _ h)) fun rs ws hw => ?_
    rw [app_ofL]
    exact RG_opsR rest (ws ++ L) _ hw

variable {n np : Nat} {L : Ws} {QA : Exit → St → Prop}

theorem AW.run {id : Nat} {os : List Oper} {y : Code} (wr : Bool) (hn : (os.all fun o => match o.dst with | some t => Nat.blt t n | none => true) = true) (h : ∀ K : Ws → List Foot → Prop, (∀ L' fs, AW P n np y (ofL L') QA → K L' fs) → RG P md wr false os os L [] K) : AW P n np (.seq (.region id os.toArray false) y) (ofL L) QA := by
  refine AW.textK (md := md) (DstOK.of hn) fun K hK => ?_
  rw [List.range_eq_range']
  exact RG_opsM 0 os L [] rfl (h (fun L _ => K (ofL L)) fun L' fs hl => hK _ hl)
theorem AW.runE {id : Nat} {os : List Oper} (wr : Bool) (hn : (os.all fun o => match o.dst with | some t => Nat.blt t n | none => true) = true) (h : ∀ K : Ws → List Foot → Prop, (∀ L' fs, QA .normal (ofL L') → K L' fs) → RG P md wr false os os L [] K) : AW P n np (.region id os.toArray false) (ofL L) QA := by
  refine AW.textE (md := md) (DstOK.of hn) fun K hK => ?_
  rw [List.range_eq_range']
  exact RG_opsM 0 os L [] rfl (h (fun L _ => K (ofL L)) fun L' fs hl => hK _ hl)
theorem AW.draw {id : Nat} {os : List Oper} {y : Code} (hmix : P.follows .mixedOrders = true) (wr : Bool) (hn : (os.all fun o => match o.dst with | some t => Nat.blt t n | none => true) = true) (h : ∀ K : Ws → List Foot → Prop, (∀ L' fs, indep os fs = true → AW P n np y (ofL L') QA → K L' fs) → RG P md wr true os os L [] K) : AW P n np (.seq (.region id os.toArray true) y) (ofL L) QA := by
  refine AW.anyK (md := md) hmix (DstOK.of hn) fun K hK => ?_
  exact RG_opsR os L [] (h (fun L fs => indep os fs = true ∧ K (ofL L)) fun L' fs hf hl => ⟨hf, hK _ hl⟩)
theorem AW.drawE {id : Nat} {os : List Oper} (hmix : P.follows .mixedOrders = true) (wr : Bool) (hn : (os.all fun o => match o.dst with | some t => Nat.blt t n | none => true) = true) (h : ∀ K : Ws → List Foot → Prop, (∀ L' fs, indep os fs = true → QA .normal (ofL L') → K L' fs) → RG P md wr true os os L [] K) : AW P n np (.region id os.toArray true) (ofL L) QA := by
  refine AW.anyE (md := md) hmix (DstOK.of hn) fun K hK => ?_
  exact RG_opsR os L [] (h (fun L fs => indep os fs = true ∧ K (ofL L)) fun L' fs hf hl => ⟨hf, hK _ hl⟩)

end Go.Abs

namespace Go.Abs
open Go

/-! Evaluation: predicates under which nothing is looked at before it is wanted. -/
def GV (x : X) (g : V → Prop) : Prop := match x with
  | .v v => g v
  | _ => False
def GB (b : Bool) (A B : Prop) : Prop := (b = true → A) ∧ (b = false → B)
def GX (x : X) (A B : Prop) : Prop := match x with
  | .v (.c (.v (.bool b))) => GB b A B
  | _ => False
def GG (x : X) (w : Bool) (A B : Prop) : Prop := match x with
  | .v (.c (.v (.bool b))) => (match w with | true => GB b A B | false => GB b B A)
  | .v .u => B
  | _ => False
def GU (t : Option Tmp) (st : St) (w : Bool) (rs : List Loc) (A B : List Loc → Prop) : Prop := match t with
  | some t => GG (st (.s t)) w (A (.s t :: rs)) (B (.s t :: rs))
  | none => False
def IX (es : List (List T)) (i : Nat) (g : List T → Prop) : Prop := match es[i]? with
  | some el => g el
  | none => False
def CX (t : Option T) (g : Nat → List (List T) → Prop) : Prop := match t with
  | some (.s true sz es) => g sz es
  | _ => False
def RW : Nat → List (List T) → Path → (Nat → List (List T) → Prop) → Prop
  | sz, es, [], g => g sz es
  | _, es, (i, j) :: p, g => IX es i fun el => CX el[j]? fun sz es => RW sz es p g
def FR (x : X) (A : Prop) : Prop := match x with
  | .none => A
  | _ => False
def EN (x : X) (g : Ent → Prop) : Prop := match x with
  | .e e => g e
  | _ => False
def CALL (P : Program) (f : Nat) (as : List A) (g : List A → List A → Prop) : Prop := ∃ fin res, Fn P f as fin res ∧ g fin res
def GO (x : Operand) (st : St) (rs : List Loc) (g : List Loc → V → Prop) : Prop := match x with
  | .tmp t => GV (st (.s t)) fun v => g (.s t :: rs) v
  | .const v => g rs (constV v)
  | .func f => g rs (.f f [])
  | .global _ => False
def GOs : List Operand → St → List Loc → (List Loc → List V → Prop) → Prop
  | [], _, rs, g => g rs []
  | o :: os, st, rs, g => GO o st rs fun rs v => GOs os st rs fun rs vs => g rs (v :: vs)
def GPs : List (Nat × Operand) → St → List Loc → (List Loc → List (Nat × V) → Prop) → Prop
  | [], _, rs, g => g rs []
  | (i, o) :: os, st, rs, g => GO o st rs fun rs v => GPs os st rs fun rs vs => g rs ((i, v) :: vs)
def GVB (v : V) (g : Bool → Prop) : Prop := match v with
  | .c (.v (.bool b)) => g b
  | _ => False
def KD (K : Ws → List Foot → Prop) (L : Ws) (fs : List Foot) : Prop := K L fs
def RM (P : Program) (md : Nat → Nat → Bool) (wr : Bool) (ops rest : List Oper) (L : Ws) (K : Ws → List Foot → Prop) : Prop := RG P md wr false ops rest L [] fun L _ => K L []
def CO (c : Operand) (L : Ws) (A B : Prop) : Prop := match c with
  | .tmp t => GX (ofL L (.s t)) A B
  | .const (.bool b) => GB b A B
  | _ => False

section
variable {P : Program} {md : Nat → Nat → Bool} {wr dr : Bool} {st : St} {rs : List Loc} {K : List Loc → Ws → Prop} {L L' : Ws} {ops rest : List Oper} {Ap Bp : Prop}

theorem GV_congr {x x' : X} {g : V → Prop} (h : x = x') : GV x g = GV x' g := by rw [h]
theorem GB_congr {b b' : Bool} (h : b = b') : GB b Ap Bp = GB b' Ap Bp := by rw [h]
theorem GX_congr {x x' : X} (h : x = x') : GX x Ap Bp = GX x' Ap Bp := by rw [h]
theorem GG_congr {x x' : X} {w : Bool} (h : x = x') : GG x w Ap Bp = GG x' w Ap Bp := by rw [h]
theorem GU_congr {t t' : Option Tmp} {w : Bool} {A B : List Loc → Prop} (h : t = t') : GU t st w rs A B = GU t' st w rs A B := by rw [h]
theorem IX_congr {es es' : List (List T)} {i i' : Nat} {g : List T → Prop} (h : es = es') (h2 : i = i') : IX es i g = IX es' i' g := by rw [h, h2]
theorem CX_congr {t t' : Option T} {g : Nat → List (List T) → Prop} (h : t = t') : CX t g = CX t' g := by rw [h]
theorem RW_congr {sz : Nat} {es es' : List (List T)} {p : Path} {g : Nat → List (List T) → Prop} (h : es = es') : RW sz es p g = RW sz es' p g := by rw [h]
theorem FR_congr {x x' : X} (h : x = x') : FR x Ap = FR x' Ap := by rw [h]
theorem EN_congr {x x' : X} {g : Ent → Prop} (h : x = x') : EN x g = EN x' g := by rw [h]
theorem CALL_congr {f : Nat} {as as' : List A} {g : List A → List A → Prop} (h : as = as') : CALL P f as g = CALL P f as' g := by rw [h]
theorem GO_congr {x : Operand} {g : List Loc → V → Prop} : GO x st rs g = GO x st rs g := rfl
theorem GOs_congr {x : List Operand} {g : List Loc → List V → Prop} : GOs x st rs g = GOs x st rs g := rfl
theorem GPs_congr {x : List (Nat × Operand)} {g : List Loc → List (Nat × V) → Prop} : GPs x st rs g = GPs x st rs g := rfl
theorem GVB_congr {v : V} {g : Bool → Prop} : GVB v g = GVB v g := rfl
theorem KD_congr {K : Ws → List Foot → Prop} {fs : List Foot} (h : L = L') : KD K L fs = KD K L' fs := by rw [h]
theorem RG_congr {acc : List Foot} {K : Ws → List Foot → Prop} (h : L = L') : RG P md wr dr ops rest L acc K = RG P md wr dr ops rest L' acc K := by rw [h]
theorem RM_congr {K : Ws → List Foot → Prop} (h : L = L') : RM P md wr ops rest L K = RM P md wr ops rest L' K := by rw [h]
theorem wq_congr {m m' : M} (h : m = m') : m.wq P dr st rs K = m'.wq P dr st rs K := by rw [h]
theorem CO_congr {c : Operand} : CO c L Ap Bp = CO c L Ap Bp := rfl

theorem GV_v {v : V} {g : V → Prop} : GV (.v v) g = g v := rfl
theorem GB_true : GB true Ap Bp = Ap := by simp [GB]
theorem GB_false : GB false Ap Bp = Bp := by simp [GB]
theorem GX_b {b : Bool} : GX (.v (.c (.v (.bool b)))) Ap Bp = GB b Ap Bp := rfl
theorem GG_t {b : Bool} : GG (.v (.c (.v (.bool b)))) true Ap Bp = GB b Ap Bp := rfl
theorem GG_f {b : Bool} : GG (.v (.c (.v (.bool b)))) false Ap Bp = GB b Bp Ap := rfl
theorem GG_u {w : Bool} : GG (.v .u) w Ap Bp = Bp := rfl
theorem GU_some {t : Tmp} {w : Bool} {A B : List Loc → Prop} : GU (some t) st w rs A B = GG (st (.s t)) w (A (.s t :: rs)) (B (.s t :: rs)) := rfl
theorem IX_0 {e : List T} {es : List (List T)} {g : List T → Prop} : IX (e :: es) 0 g = g e := rfl
theorem IX_s {e : List T} {es : List (List T)} {n : Nat} {g : List T → Prop} : IX (e :: es) (n + 1) g = IX es n g := by simp only [IX, List.getElem?_cons_succ]
theorem CX_s {sz : Nat} {es : List (List T)} {g : Nat → List (List T) → Prop} : CX (some (.s true sz es)) g = g sz es := rfl
theorem RW_nil {sz : Nat} {es : List (List T)} {g : Nat → List (List T) → Prop} : RW sz es [] g = g sz es := rfl
theorem RW_cons {sz : Nat} {es : List (List T)} {i j : Nat} {p : Path} {g : Nat → List (List T) → Prop} : RW sz es ((i, j) :: p) g = IX es i fun el => CX el[j]? fun sz es => RW sz es p g := rfl
theorem FR_none : FR .none Ap = Ap := rfl
theorem EN_e {e : Ent} {g : Ent → Prop} : EN (.e e) g = g e := rfl
theorem GO_tmp {t : Tmp} {g : List Loc → V → Prop} : GO (.tmp t) st rs g = GV (st (.s t)) fun v => g (.s t :: rs) v := rfl
theorem GO_int {k : IntKind} {n : Int} {g : List Loc → V → Prop} : GO (.const (.int k n)) st rs g = g rs (.c (.v (.int k n))) := rfl
theorem GO_bool {b : Bool} {g : List Loc → V → Prop} : GO (.const (.bool b)) st rs g = g rs (.c (.v (.bool b))) := rfl
theorem GO_str {s : ByteArray} {g : List Loc → V → Prop} : GO (.const (.string s)) st rs g = g rs (.c (.v (.string s))) := rfl
theorem GO_nil {g : List Loc → V → Prop} : GO (.const (.slice none 0 0)) st rs g = g rs (.c .n) := rfl
theorem GO_func {f : Nat} {g : List Loc → V → Prop} : GO (.func f) st rs g = g rs (.f f []) := rfl
theorem GOs_nil {g : List Loc → List V → Prop} : GOs [] st rs g = g rs [] := rfl
theorem GOs_cons {o : Operand} {os : List Operand} {g : List Loc → List V → Prop} : GOs (o :: os) st rs g = GO o st rs fun rs v => GOs os st rs fun rs vs => g rs (v :: vs) := rfl
theorem GPs_nil {g : List Loc → List (Nat × V) → Prop} : GPs [] st rs g = g rs [] := rfl
theorem GPs_cons {i : Nat} {o : Operand} {os : List (Nat × Operand)} {g : List Loc → List (Nat × V) → Prop} : GPs ((i, o) :: os) st rs g = GO o st rs fun rs v => GPs os st rs fun rs vs => g rs ((i, v) :: vs) := rfl
theorem GVB_b {b : Bool} {g : Bool → Prop} : GVB (.c (.v (.bool b))) g = g b := rfl
theorem CO_tmp {t : Tmp} : CO (.tmp t) L Ap Bp = GX (ofL L (.s t)) Ap Bp := rfl
theorem CO_bool {b : Bool} : CO (.const (.bool b)) L Ap Bp = GB b Ap Bp := rfl
theorem dstAt_0 {o : Oper} {os : List Oper} : dstAt (o :: os) 0 = o.dst := rfl
theorem dstAt_s {o : Oper} {os : List Oper} {n : Nat} : dstAt (o :: os) (n + 1) = dstAt os n := rfl

theorem RM_nil {K : Ws → List Foot → Prop} : RM P md wr ops [] L K = K L [] := rfl
theorem RM_cons {o : Oper} {K : Ws → List Foot → Prop} : RM P md wr ops (o :: rest) L K = (operM2 P md wr ops o).wq P false (ofL L) [] fun rs ws => RM P md wr ops rest (ws ++ L) K := by
  have hall : ∀ (rest : List Oper) (L : Ws) (a b : List Foot), RG P md wr false ops rest L a (fun L _ => K L []) = RG P md wr false ops rest L b fun L _ => K L [] := by
    intro rest
    induction rest with
    | nil => intro L a b; rfl
    | cons o rest ih =>
      intro L a b
      simp only [RG]
      congr
      funext rs ws
      exact ih _ _ _
  simp only [RM, RG]
  congr
  funext rs ws
  exact hall _ _ _ _
theorem RG_nil {acc : List Foot} {K : Ws → List Foot → Prop} : RG P md wr dr ops [] L acc K = KD K L acc := rfl
theorem RG_cons {o : Oper} {acc : List Foot} {K : Ws → List Foot → Prop} : RG P md wr dr ops (o :: rest) L acc K = (operM2 P md wr ops o).wq P dr (ofL L) [] fun rs ws => RG P md wr dr ops rest (ws ++ L) (acc ++ [⟨rs, ws.map (·.1)⟩]) K := rfl

/-! programs -/
theorem wq_ret {ws : Ws} : (M.ret ws).wq P dr st rs K = K rs ws := rfl
theorem wq_req {p : Prop} {m : M} : (M.req p m).wq P dr st rs K = (p ∧ m.wq P dr st rs K) := rfl
theorem wq_bad : M.bad.wq P dr st rs K = False := rfl
theorem wq_call {f : Nat} {as : List A} {k : List A → List A → M} : (M.call f as k).wq P dr st rs K = CALL P f as fun fin res => (k fin res).wq P dr st rs K := rfl
theorem wq_get {l : Loc} {f : X → M} : (M.get l f).wq P dr st rs K = (f (st l)).wq P dr st (l :: rs) K := rfl
theorem wq_getO {x : Operand} {k : V → M} : (getO x k).wq P dr st rs K = GO x st rs fun rs v => (k v).wq P dr st rs K := by
  cases x with
  | tmp t =>
    simp only [getO, M.wq, GO, GV]
    cases st (.s t) <;> rfl
  | _ => rfl
theorem wq_getOs : ∀ (os : List Operand) {rs : List Loc} {k : List V → M}, (getOs os k).wq P dr st rs K = GOs os st rs fun rs vs => (k vs).wq P dr st rs K
  | [], rs, k => rfl
  | o :: os, rs, k => by
    simp only [getOs, GOs, wq_getO]
    congr; funext rs v
    exact wq_getOs os
theorem wq_getPs : ∀ (os : List (Nat × Operand)) {rs : List Loc} {k : List (Nat × V) → M}, (getPs os k).wq P dr st rs K = GPs os st rs fun rs vs => (k vs).wq P dr st rs K
  | [], rs, k => rfl
  | (i, o) :: os, rs, k => by
    simp only [getPs, GPs, wq_getO]
    congr; funext rs v
    exact wq_getPs os
theorem wq_fresh {k : Go.Abs.K} {m : M} : (fresh k m).wq P dr st rs K = FR (st (.k k)) (m.wq P dr st (.k k :: rs) K) := by
  simp only [fresh, M.wq, FR]
  cases st (.k k) <;> rfl
theorem RW_row {m : Nat → List (List T) → M} : ∀ (p : Path) (sz : Nat) (es : List (List T)), (match rowAt sz es p with
    | some (sz, es) => m sz es
    | none => M.bad).wq P dr st rs K = RW sz es p fun sz es => (m sz es).wq P dr st rs K
  | [], sz, es => rfl
  | (i, j) :: p, sz, es => by
    simp only [rowAt, RW, IX, cellAt]
    cases es[i]? with
    | none => rfl
    | some el =>
      simp only [Option.bind_some, CX]
      cases el[j]? with
      | none => rfl
      | some t =>
        cases t with
        | s o sz es =>
          cases o with
          | true => exact RW_row p sz es
          | false => rfl
        | v x => rfl
        | d => rfl
theorem wq_getR0 {k : Go.Abs.K} {ver : Nat} {p : Path} {f : Ent → Nat → List (List T) → M} : (getR [] k ver p f).wq P dr st rs K = EN (st (.k k)) fun e => (p = [] ∨ e.ver = ver) ∧ RW e.sz e.es p fun sz es => (f e sz es).wq P dr st (.k k :: rs) K := by
  simp only [getR, getE, ovl, M.wq, EN]
  cases st (.k k) with
  | e e => exact congrArg (And _) (RW_row ..)
  | _ => rfl
theorem wq_getR {l : Loc} {x : X} {ov : Ws} {k : Go.Abs.K} {ver : Nat} {p : Path} {f : Ent → Nat → List (List T) → M} : (getR ((l, x) :: ov) k ver p f).wq P dr st rs K = (getE ((l, x) :: ov) k fun e => .req (p = [] ∨ e.ver = ver) (match rowAt e.sz e.es p with
    | some (sz, es) => f e sz es
    | none => .bad)).wq P dr st rs K := rfl

/-! operations -/
variable {d ty : Nat} {pos : String} {aft : Array Edge} {g : Option (Nat × Bool)}
theorem wq_n {dd : Option Tmp} {op : Op} : (operM2 P md wr ops ⟨dd, op, ty, pos, aft, none⟩).wq P dr st rs K = (opM2 P md wr ⟨dd, op, ty, pos, aft, none⟩).wq P dr st rs K := rfl
theorem opM2_guard {dd : Option Tmp} {op : Op} {g' : Option (Nat × Bool)} : opM2 P md wr ⟨dd, op, ty, pos, aft, g⟩ = opM2 P md wr ⟨dd, op, ty, pos, aft, g'⟩ := by
  cases wr <;> cases op <;> rfl
theorem wq_g {op : Op} {j : Nat} {w : Bool} : (operM2 P md wr ops ⟨some d, op, ty, pos, aft, some (j, w)⟩).wq P dr st rs K = GU (dstAt ops j) st w rs (fun rs => (opM2 P md wr ⟨some d, op, ty, pos, aft, none⟩).wq P dr st rs K) fun rs => K rs [(.s d, .v .u)] := by
  simp only [operM2, opM2_guard (g := some (j, w)) (g' := none), guM, GU]
  cases dstAt ops j with
  | none => rfl
  | some t =>
    simp only [M.wq, GG]
    generalize st (.s t) = x
    split
    · rename_i b
      try simp only []
      cases b <;> cases w <;> simp [GB, M.wq]
    · rfl
    · rename_i h1 h2
      first
        | rfl
        | (split <;> first | exact (h1 _ rfl).elim | exact (h2 rfl).elim | rfl)
theorem wq_gn {op : Op} {j : Nat} {w : Bool} : (operM2 P md wr ops ⟨none, op, ty, pos, aft, some (j, w)⟩).wq P dr st rs K = GU (dstAt ops j) st w rs (fun rs => (opM2 P md wr ⟨none, op, ty, pos, aft, none⟩).wq P dr st rs K) fun rs => K rs [] := by
  simp only [operM2, opM2_guard (g := some (j, w)) (g' := none), guM, GU]
  cases dstAt ops j with
  | none => rfl
  | some t =>
    simp only [M.wq, GG]
    generalize st (.s t) = x
    split
    · rename_i b
      try simp only []
      cases b <;> cases w <;> simp [GB, M.wq]
    · rfl
    · rename_i h1 h2
      first
        | rfl
        | (split <;> first | exact (h1 _ rfl).elim | exact (h2 rfl).elim | rfl)
theorem q_move {x : Operand} : (opM2 P md wr ⟨some d, .move x, ty, pos, aft, g⟩).wq P dr st rs K = GO x st rs fun rs v => K rs [(.s d, .v v)] := by
  cases wr <;> exact wq_getO
theorem q_assign {x : Operand} : (opM2 P md wr ⟨some d, .assign x, ty, pos, aft, g⟩).wq P dr st rs K = GO x st rs fun rs v => K rs [(.s d, .v v)] := by
  cases wr <;> exact wq_getO
theorem q_pick {c a b : Operand} : (opM2 P md wr ⟨some d, .pick c a b, ty, pos, aft, g⟩).wq P dr st rs K = GO c st rs fun rs c => GVB c fun t => GB t (GO a st rs fun rs v => K rs [(.s d, .v v)]) (GO b st rs fun rs v => K rs [(.s d, .v v)]) := by
  have : (opM P md ⟨some d, .pick c a b, ty, pos, aft, g⟩).wq P dr st rs K = GO c st rs fun rs c => GVB c fun t => GB t (GO a st rs fun rs v => K rs [(.s d, .v v)]) (GO b st rs fun rs v => K rs [(.s d, .v v)]) := by
    simp only [opM, wq_getO]
    congr; funext rs v
    unfold boolV GVB
    split
    · rename_i h
      split at h
      · obtain rfl := Option.some.inj h
        rename_i t
        cases t <;> simp only [GB, if_true, Bool.false_eq_true, if_false, wq_getO, false_imp_iff, true_and, and_true, true_imp_iff, reduceCtorEq] <;> rfl
      · cases h
    · rename_i h
      split at h
      · cases h
      · split
        · rename_i hne
          exact absurd rfl (hne _)
        · rfl
  cases wr <;> exact this
theorem q_bin {op : BinOp} {t yt : TypeId} {x y : Operand} : (opM2 P md false ⟨some d, .binOp op t x y yt, ty, pos, aft, g⟩).wq P dr st rs K = GO x st rs fun rs x => GO y st rs fun rs y => (bin2 P op t x y fun v => .ret [(.s d, .v v)]).wq P dr st rs K := by
  refine wq_getO.trans ?_
  congr; funext rs v
  exact wq_getO
theorem q_binw {op : BinOp} {t yt : TypeId} {x y : Operand} : (opM2 P md true ⟨some d, .binOp op t x y yt, ty, pos, aft, g⟩).wq P dr st rs K = GO x st rs fun rs x => GO y st rs fun rs y => (binM P op t x y fun v => .ret [(.s d, .v v)]).wq P dr st rs K := by
  refine wq_getO.trans ?_
  congr; funext rs v
  exact wq_getO
theorem q_un {op : UnOp} {t : TypeId} {x : Operand} : (opM2 P md wr ⟨some d, .unOp op t x, ty, pos, aft, g⟩).wq P dr st rs K = GO x st rs fun rs x => (match op, x with
    | .not, .c (.v (.bool b)) => M.ret [(.s d, .v (.c (.v (.bool (!b)))))]
    | .neg, .c (.v (.int k n)) => .ret [(.s d, .v (.c (.v (.int k (k.wrap (0 - n))))))]
    | _, _ => .bad).wq P dr st rs K := by
  cases wr <;> exact wq_getO
theorem q_alloc {t : TypeId} : (opM2 P md wr ⟨some d, .alloc t, ty, pos, aft, g⟩).wq P dr st rs K = (match zeroOf P t, szOf P t with
  | some z, some n => fresh (d, 0) (.req (n ≠ 0 ∧ z.length = n) (.ret [(.s d, .v (.p (d, 0) 0 [] 0 0)), (.k (d, 0), .e ⟨0, n, [z]⟩)]))
  | _, _ => .bad).wq P dr st rs K := by
  refine (show _ = _ from ?_)
  have h0 : ∀ m, (opM P md ⟨some d, .alloc t, ty, pos, aft, g⟩ = m) → (opM2 P md wr ⟨some d, .alloc t, ty, pos, aft, g⟩).wq P dr st rs K = m.wq P dr st rs K := fun m h => by cases wr <;> exact congrArg (fun m => M.wq P dr m st rs K) h
  refine h0 _ ?_
  simp only [opM]
  cases zeroOf P t <;> cases szOf P t <;> rfl
theorem q_box {t : TypeId} {x : Operand} : (opM2 P md wr ⟨some d, .box t x, ty, pos, aft, g⟩).wq P dr st rs K = (match kinds P 12 t, szOf P t with
    | some ks, some n => getO x fun v => match v.cells with
      | some cs => fresh (d, 0) (.req (n ≠ 0 ∧ cs.length = n) (convs [] ks cs fun ov ts => .ret ((.s d, .v (.p (d, 0) 0 [] 0 0)) :: (.k (d, 0), .e ⟨0, n, [ts]⟩) :: ov)))
      | none => .bad
    | _, _ => .bad).wq P dr st rs K := by
  refine (show _ = _ from ?_)
  have h0 : ∀ m, (opM P md ⟨some d, .box t x, ty, pos, aft, g⟩ = m) → (opM2 P md wr ⟨some d, .box t x, ty, pos, aft, g⟩).wq P dr st rs K = m.wq P dr st rs K := fun m h => by cases wr <;> exact congrArg (fun m => M.wq P dr m st rs K) h
  refine h0 _ ?_
  simp only [opM]
  cases kinds P 12 t <;> cases szOf P t <;> rfl
theorem q_build {t : TypeId} {parts : List (Nat × Operand)} : (opM2 P md wr ⟨some d, .build t parts.toArray, ty, pos, aft, g⟩).wq P dr st rs K = (match isStruct P t, zeroOf P t with
    | true, some z => getPs parts fun ps => fillC P t (zeroC z) ps fun cs => .ret [(.s d, .v (.a cs))]
    | _, _ => .bad).wq P dr st rs K := by
  cases wr <;> rfl
theorem q_buildS {t : TypeId} {len : Nat} {parts : List (Nat × Operand)} : (opM2 P md wr ⟨some d, .buildSlice t len parts.toArray, ty, pos, aft, g⟩).wq P dr st rs K = (match elemOf P t with
    | some e => match kinds P 12 e, szOf P e with
      | some ks, some n => getPs parts fun ps => match partCells n 0 ps with
        | some css => fresh (d, 0) (.req (n ≠ 0 ∧ css.length = len ∧ len * n ≤ 16777216 ∧ (zeroOf P e).isSome = true) (convsL ks [] css fun ov es =>
          .ret ((.s d, .v (.c (.r (d, 0) 0 [] 0 len))) :: (.k (d, 0), .e ⟨0, n, es⟩) :: ov)))
        | none => .bad
      | _, _ => .bad
    | _ => .bad).wq P dr st rs K := by
  refine (show _ = _ from ?_)
  have h0 : ∀ m, (opM P md ⟨some d, .buildSlice t len parts.toArray, ty, pos, aft, g⟩ = m) → (opM2 P md wr ⟨some d, .buildSlice t len parts.toArray, ty, pos, aft, g⟩).wq P dr st rs K = m.wq P dr st rs K := fun m h => by cases wr <;> exact congrArg (fun m => M.wq P dr m st rs K) h
  refine h0 _ ?_
  simp only [opM]
  cases elemOf P t <;> rfl
theorem q_makeS {t : TypeId} {l c : Operand} : (opM2 P md wr ⟨some d, .makeSlice t l c, ty, pos, aft, g⟩).wq P dr st rs K = (match elemOf P t with
    | some e => match zeroOf P e, szOf P e, bytesOf P e with
      | some z, some n, some by_ => getO l fun l => getO c fun c => match intV l, intV c with
        | some l, some c => fresh (d, 0) (.req (n ≠ 0 ∧ z.length = n ∧ 0 ≤ l ∧ l = c ∧ l.toNat * by_ ≤ 140737488355328 ∧ l.toNat ≤ 140737488355328) (.ret [(.s d, .v (.c (.r (d, 0) 0 [] 0 l.toNat))), (.k (d, 0), .e ⟨0, n, List.replicate l.toNat z⟩)]))
        | _, _ => .bad
      | _, _, _ => .bad
    | _ => .bad).wq P dr st rs K := by
  refine (show _ = _ from ?_)
  have h0 : ∀ m, (opM P md ⟨some d, .makeSlice t l c, ty, pos, aft, g⟩ = m) → (opM2 P md wr ⟨some d, .makeSlice t l c, ty, pos, aft, g⟩).wq P dr st rs K = m.wq P dr st rs K := fun m h => by cases wr <;> exact congrArg (fun m => M.wq P dr m st rs K) h
  refine h0 _ ?_
  simp only [opM]
  cases elemOf P t <;> rfl
def ixM (es : List (List T)) (i : Nat) (f : List T → M) : M := match es[i]? with
  | some el => f el
  | none => .bad
theorem wq_ixM {es : List (List T)} {i : Nat} {f : List T → M} : (ixM es i f).wq P dr st rs K = IX es i fun el => (f el).wq P dr st rs K := by
  unfold ixM IX
  cases es[i]? <;> rfl
theorem q_load {t : TypeId} {a : Operand} : (opM2 P md wr ⟨some d, .load t a, ty, pos, aft, g⟩).wq P dr st rs K = (match szOf P t, aggOf P t with
    | some n, some g => getO a fun v => match v with
      | .p k ver p i off => getR [] k ver p fun e _ es => ixM es i fun el => .req (n ≠ 0 ∧ off + n ≤ el.length) (whole g (toC k e.ver p i off ((el.drop off).take n)) fun v => .ret [(.s d, .v v)])
      | .q _ es i off => ixM es i fun el => .req (n ≠ 0 ∧ off + n ≤ el.length) (whole g (toB ((el.drop off).take n)) fun v => .ret [(.s d, .v v)])
      | _ => .bad
    | _, _ => .bad).wq P dr st rs K := by
  cases wr <;> rfl
theorem q_store {t : TypeId} {a x : Operand} : (opM2 P md wr ⟨none, .store t a x, ty, pos, aft, g⟩).wq P dr st rs K = (match szOf P t, kinds P 12 t with
    | some n, some ks => getO a fun a => getO x fun x => match a, x.cells with
      | .p k ver p i off, some cs => .req (cs.length = n ∧ n ≠ 0) (convs [] ks cs fun ov ts => getR ov k ver p fun e _ es => ixM es i fun el => .req (off + n ≤ el.length) (.ret ((.k k, .e ⟨if ts.all T.isV && ((el.drop off).take n).all T.isV then e.ver else e.ver + 1, e.sz, setRow e.es p (es.set i (splice el off ts))⟩) :: ov)))
      | _, _ => .bad
    | _, _ => .bad).wq P dr st rs K := by
  refine (show _ = _ from ?_)
  have h0 : ∀ m, (opM P md ⟨none, .store t a x, ty, pos, aft, g⟩ = m) → (opM2 P md wr ⟨none, .store t a x, ty, pos, aft, g⟩).wq P dr st rs K = m.wq P dr st rs K := fun m h => by cases wr <;> exact congrArg (fun m => M.wq P dr m st rs K) h
  refine h0 _ ?_
  simp only [opM]
  cases szOf P t <;> cases kinds P 12 t <;> rfl
theorem q_nilCheck {x : Operand} : (opM2 P md wr ⟨some d, .nilCheck x, ty, pos, aft, g⟩).wq P dr st rs K = GO x st rs fun rs v => (match v with
    | .p k ver p i off => M.ret [(.s d, .v (.p k ver p i off))]
    | .q sz es i off => .ret [(.s d, .v (.q sz es i off))]
    | _ => .bad).wq P dr st rs K := by
  have : (opM P md ⟨some d, .nilCheck x, ty, pos, aft, g⟩).wq P dr st rs K = GO x st rs fun rs v => (match v with
    | .p k ver p i off => M.ret [(.s d, .v (.p k ver p i off))]
    | .q sz es i off => .ret [(.s d, .v (.q sz es i off))]
    | _ => .bad).wq P dr st rs K := by
    simp only [opM, wq_getO]
    congr; funext rs v
    cases v <;> rfl
  cases wr <;> exact this
theorem q_slice {t : TypeId} {x : Operand} {lo hi : Option Operand} : (opM2 P md wr ⟨some d, .slice t x lo hi none, ty, pos, aft, g⟩).wq P dr st rs K = (match elemOf P t with
    | some e => match szOf P e with
      | some n => getO x fun x => getOpt lo fun lo => getOpt hi fun hi => match lenV x with
        | some m => .req (n ≠ 0) (optI lo 0 fun lo => optI hi m fun hi => sliceM n x lo hi fun v => .ret [(.s d, .v v)])
        | none => .bad
      | none => .bad
    | _ => .bad).wq P dr st rs K := by
  have : opM P md ⟨some d, .slice t x lo hi none, ty, pos, aft, g⟩ = (match elemOf P t with
    | some e => match szOf P e with
      | some n => getO x fun x => getOpt lo fun lo => getOpt hi fun hi => match lenV x with
        | some m => .req (n ≠ 0) (optI lo 0 fun lo => optI hi m fun hi => sliceM n x lo hi fun v => .ret [(.s d, .v v)])
        | none => .bad
      | none => .bad
    | _ => .bad) := by
    simp only [opM]
    cases elemOf P t <;> rfl
  cases wr <;> exact congrArg (fun m => M.wq P dr m st rs K) this
theorem q_fieldAddr {t : TypeId} {x : Operand} {f : Nat} : (opM2 P md wr ⟨some d, .fieldAddr t x f, ty, pos, aft, g⟩).wq P dr st rs K = (match fieldOf P t f with
    | some (off, _, _) => getO x fun x => ptrTo x off fun v => .ret [(.s d, .v v)]
    | none => .bad).wq P dr st rs K := by
  cases wr <;> rfl
theorem q_field {t : TypeId} {x : Operand} {f : Nat} : (opM2 P md wr ⟨some d, .field t x f, ty, pos, aft, g⟩).wq P dr st rs K = (match fieldOf P t f with
    | some (off, n, g) => getO x fun x => match x with
      | .a cs => .req (off + n ≤ cs.length) (whole g ((cs.drop off).take n) fun v => .ret [(.s d, .v v)])
      | _ => .bad
    | none => .bad).wq P dr st rs K := by
  cases wr <;> rfl
theorem q_indexAddr {t : TypeId} {x i : Operand} : (opM2 P md wr ⟨some d, .indexAddr t x i, ty, pos, aft, g⟩).wq P dr st rs K = (match elemOf P t with
    | some e => match szOf P e with
      | some n => getO x fun x => getO i fun i => match intV i with
        | some i => match x with
          | .c (.b sz es) => .req (0 ≤ i ∧ i < es.length ∧ sz = n) (.ret [(.s d, .v (.q sz es i.toNat 0))])
          | .c (.r k ver p off len) => getR [] k ver p fun _ sz es => .req (0 ≤ i ∧ i < len ∧ off + len ≤ es.length ∧ sz = n) (.ret [(.s d, .v (.p k ver p (off + i.toNat) 0))])
          | _ => .bad
        | none => .bad
      | none => .bad
    | none => .bad).wq P dr st rs K := by
  cases wr <;> rfl
theorem q_extract {x : Operand} {n : Nat} : (opM2 P md wr ⟨some d, .extract x n, ty, pos, aft, g⟩).wq P dr st rs K = GO x st rs fun rs x => (match x with
    | .t vs => match vs[n]? with
      | some v => M.ret [(.s d, .v v)]
      | none => .bad
    | _ => .bad).wq P dr st rs K := by
  cases wr <;> exact wq_getO
theorem q_makeFunc {f : Nat} {caps : List Operand} : (opM2 P md wr ⟨some d, .makeFunc (.func f) #[] caps.toArray, ty, pos, aft, g⟩).wq P dr st rs K = GOs caps st rs fun rs vs => K rs [(.s d, .v (.f f vs))] := by
  have : (opM P md ⟨some d, .makeFunc (.func f) #[] caps.toArray, ty, pos, aft, g⟩).wq P dr st rs K = GOs caps st rs fun rs vs => K rs [(.s d, .v (.f f vs))] := by
    simp only [opM, List.isEmpty_toArray, List.isEmpty_nil, if_true, wq_getOs]
    rfl
  cases wr <;> exact this
theorem q_call {f : Nat} {args : List Operand} {tys : List TypeId} : (opM2 P md wr ⟨some d, .call ⟨.value (.func f), args.toArray, tys.toArray⟩, ty, pos, aft, g⟩).wq P dr st rs K = GOs args st rs fun rs vs => (callM P md f [] tys vs d).wq P dr st rs K := by
  have : (opM P md ⟨some d, .call ⟨.value (.func f), args.toArray, tys.toArray⟩, ty, pos, aft, g⟩).wq P dr st rs K = GOs args st rs fun rs vs => (callM P md f [] tys vs d).wq P dr st rs K := by
    simp only [opM, getO, wq_getOs]
  cases wr <;> exact this
theorem q_callT {f : Nat} {args : List Operand} {tys : List TypeId} : (opM2 P md wr ⟨some d, .call ⟨.value (.tmp f), args.toArray, tys.toArray⟩, ty, pos, aft, g⟩).wq P dr st rs K = GO (.tmp f) st rs fun rs f => GOs args st rs fun rs vs => (match f with
      | .f fn caps => callM P md fn caps tys vs d
      | _ => .bad).wq P dr st rs K := by
  have : (opM P md ⟨some d, .call ⟨.value (.tmp f), args.toArray, tys.toArray⟩, ty, pos, aft, g⟩).wq P dr st rs K = GO (.tmp f) st rs fun rs f => GOs args st rs fun rs vs => (match f with
      | .f fn caps => callM P md fn caps tys vs d
      | _ => .bad).wq P dr st rs K := by
    simp only [opM, wq_getO, wq_getOs]
    rfl
  cases wr <;> exact this
theorem q_len {x : Operand} {t : TypeId} : (opM2 P md wr ⟨some d, .call ⟨.builtin .len, #[x], #[t]⟩, ty, pos, aft, g⟩).wq P dr st rs K = (match elemOf P t with
        | some _ => getO x fun x => match lenV x with
          | some n => M.ret [(.s d, .v (.c (.v (.int .i64 n))))]
          | none => .bad
        | none => .bad).wq P dr st rs K := by
  cases wr <;> rfl
theorem q_append {s x : Operand} {t t' : TypeId} : (opM2 P md wr ⟨some d, .call ⟨.builtin .append, #[s, x], #[t, t']⟩, ty, pos, aft, g⟩).wq P dr st rs K = (match elemOf P t' with
        | some _ => getO s fun s => getO x fun x => appendM P t d s x
        | none => .bad).wq P dr st rs K := by
  cases wr <;> rfl
theorem q_min {x y : Operand} {tys : Array TypeId} : (opM2 P md wr ⟨some d, .call ⟨.builtin .min, #[x, y], tys⟩, ty, pos, aft, g⟩).wq P dr st rs K = GO x st rs fun rs x => GO y st rs fun rs y => (match minV x y with
        | some v => M.ret [(.s d, .v v)]
        | none => .bad).wq P dr st rs K := by
  have : (opM P md ⟨some d, .call ⟨.builtin .min, #[x, y], tys⟩, ty, pos, aft, g⟩).wq P dr st rs K = GO x st rs fun rs x => GO y st rs fun rs y => (match minV x y with
        | some v => M.ret [(.s d, .v v)]
        | none => .bad).wq P dr st rs K := by
    simp only [opM, wq_getO]
    rfl
  cases wr <;> exact this
theorem q_max {x y : Operand} {tys : Array TypeId} : (opM2 P md wr ⟨some d, .call ⟨.builtin .max, #[x, y], tys⟩, ty, pos, aft, g⟩).wq P dr st rs K = GO x st rs fun rs x => GO y st rs fun rs y => (match maxV x y with
        | some v => M.ret [(.s d, .v v)]
        | none => .bad).wq P dr st rs K := by
  have : (opM P md ⟨some d, .call ⟨.builtin .max, #[x, y], tys⟩, ty, pos, aft, g⟩).wq P dr st rs K = GO x st rs fun rs x => GO y st rs fun rs y => (match maxV x y with
        | some v => M.ret [(.s d, .v v)]
        | none => .bad).wq P dr st rs K := by
    simp only [opM, wq_getO]
    rfl
  cases wr <;> exact this

/-! arithmetic -/
variable {t : TypeId} {k : V → M} {m n : Int} {ik : IntKind}
theorem b_add : (bin2 P .add t (.c (.v (.int .i64 m))) (.c (.v (.int .i64 n))) k).wq P dr st rs K = (in64 (m + n) ∧ (k (.c (.v (.int .i64 (m + n))))).wq P dr st rs K) := rfl
theorem b_sub : (bin2 P .sub t (.c (.v (.int .i64 m))) (.c (.v (.int .i64 n))) k).wq P dr st rs K = (in64 (m - n) ∧ (k (.c (.v (.int .i64 (m - n))))).wq P dr st rs K) := rfl
theorem b_mul : (bin2 P .mul t (.c (.v (.int .i64 m))) (.c (.v (.int .i64 n))) k).wq P dr st rs K = (in64 (m * n) ∧ (k (.c (.v (.int .i64 (m * n))))).wq P dr st rs K) := rfl
theorem b_eql : (bin2 P .eql t (.c (.v (.int ik m))) (.c (.v (.int ik n))) k).wq P dr st rs K = (k (.c (.v (.bool (m == n))))).wq P dr st rs K := by
  simp only [bin2, binM, if_true, intBin]
theorem b_neq : (bin2 P .neq t (.c (.v (.int ik m))) (.c (.v (.int ik n))) k).wq P dr st rs K = (k (.c (.v (.bool (m != n))))).wq P dr st rs K := by
  simp only [bin2, binM, if_true, intBin]
theorem b_lss : (bin2 P .lss t (.c (.v (.int ik m))) (.c (.v (.int ik n))) k).wq P dr st rs K = (k (.c (.v (.bool (decide (m < n)))))).wq P dr st rs K := by
  simp only [bin2, binM, if_true, intBin]
theorem b_leq : (bin2 P .leq t (.c (.v (.int ik m))) (.c (.v (.int ik n))) k).wq P dr st rs K = (k (.c (.v (.bool (decide (m ≤ n)))))).wq P dr st rs K := by
  simp only [bin2, binM, if_true, intBin]
theorem b_gtr : (bin2 P .gtr t (.c (.v (.int ik m))) (.c (.v (.int ik n))) k).wq P dr st rs K = (k (.c (.v (.bool (decide (n < m)))))).wq P dr st rs K := by
  simp only [bin2, binM, if_true, intBin, gt_iff_lt]
theorem b_geq : (bin2 P .geq t (.c (.v (.int ik m))) (.c (.v (.int ik n))) k).wq P dr st rs K = (k (.c (.v (.bool (decide (n ≤ m)))))).wq P dr st rs K := by
  simp only [bin2, binM, if_true, intBin, ge_iff_le]
theorem b_boolM {op : BinOp} {x y : Bool} : bin2 P op t (.c (.v (.bool x))) (.c (.v (.bool y))) k = match P.underlying t, op with
    | some .bool, .eql => k (.c (.v (.bool (x == y))))
    | some .bool, .neq => k (.c (.v (.bool (!(x == y)))))
    | _, _ => .bad := by
  cases op <;> rfl
theorem b_strM {op : BinOp} {x y : ByteArray} : bin2 P op t (.c (.v (.string x))) (.c (.v (.string y))) k = match op with
    | .add => .req (x.size + y.size ≤ 1073741824) (k (.c (.v (.string (x ++ y)))))
    | .eql => k (.c (.v (.bool (x.toList == y.toList))))
    | .neq => k (.c (.v (.bool !(x.toList == y.toList))))
    | _ => .bad := by
  cases op <;> rfl
theorem b_aggM {op : BinOp} {xs ys : List C} : bin2 P op t (.a xs) (.a ys) k = match allV xs, allV ys with
    | some xs, some ys => match isStruct P t, P.eqGuardType P.depth t, flatEq P 12 t with
      | true, false, some ks => match eqVs ks xs ys, op with
        | some r, .eql => k (.c (.v (.bool r)))
        | some r, .neq => k (.c (.v (.bool (!r))))
        | _, _ => .bad
      | _, _, _ => .bad
    | _, _ => .bad := by
  cases op <;> rfl

end

section
variable {P : Program} {md : Nat → Nat → Bool} {n np : Nat} {L : Ws} {QA : Exit → St → Prop} {Ap Bp : Prop}
theorem CALL.use {f : Nat} {as fin res : List A} {g : List A → List A → Prop} (h : Fn P f as fin res) (h2 : g fin res) : CALL P f as g := ⟨fin, res, h, h2⟩
theorem GB.use {b : Bool} (h1 : b = true → Ap) (h2 : b = false → Bp) : GB b Ap Bp := ⟨h1, h2⟩

theorem AW.condC {c : Operand} {x y : Code} (h : CO c L (AW P n np x (ofL L) QA) (AW P n np y (ofL L) QA)) : AW P n np (.cond c x y) (ofL L) QA := by
  have hb : ∀ b : Bool, condV (ofL L) c = some b → GB b (AW P n np x (ofL L) QA) (AW P n np y (ofL L) QA) → AW P n np (.cond c x y) (ofL L) QA := by
    intro b hc h
    refine AW.cond hc ?_
    cases b with
    | true => exact h.1 rfl
    | false => exact h.2 rfl
  cases c with
  | tmp t =>
    simp only [CO, GX] at h
    split at h
    · rename_i b hs
      exact hb b (by simp [condV, hs]) h
    · exact h.elim
  | const v =>
    cases v with
    | bool b => exact hb b rfl h
    | _ => exact h.elim
  | _ => exact h.elim
theorem RG_mono {wr dr : Bool} {ops : List Oper} {K K' : Ws → List Foot → Prop} (hk : ∀ L fs, K L fs → K' L fs) : ∀ (rest : List Oper) (L : Ws) (acc : List Foot), RG P md wr dr ops rest L acc K → RG P md wr dr ops rest L acc K'
  | [], L, acc, h => hk _ _ h
  | o :: rest, L, acc, h => M.wq_mono _ h fun rs ws h => RG_mono hk rest _ _ h
theorem AW.runM {id : Nat} {os : List Oper} {y : Code} (wr : Bool) (hn : (os.all fun o => match o.dst with | some t => Nat.blt t n | none => true) = true) (h : ∀ K : Ws → List Foot → Prop, (∀ L' fs, AW P n np y (ofL L') QA → K L' fs) → RM P md wr os os L K) : AW P n np (.seq (.region id os.toArray false) y) (ofL L) QA :=
  AW.run (md := md) wr hn fun K hK => RG_mono (fun L fs h => h fs) _ _ _ (h (fun L _ => ∀ fs, K L fs) fun L' _ hl fs => hK _ _ hl)
theorem AW.runME {id : Nat} {os : List Oper} (wr : Bool) (hn : (os.all fun o => match o.dst with | some t => Nat.blt t n | none => true) = true) (h : ∀ K : Ws → List Foot → Prop, (∀ L' fs, QA .normal (ofL L') → K L' fs) → RM P md wr os os L K) : AW P n np (.region id os.toArray false) (ofL L) QA :=
  AW.runE (md := md) wr hn fun K hK => RG_mono (fun L fs h => h fs) _ _ _ (h (fun L _ => ∀ fs, K L fs) fun L' _ hl fs => hK _ _ hl)
end

/-! rows of a list -/
def at' {α : Type} [Inhabited α] (l : List α) (i : Nat) : α := l.getD i default
theorem at_some {α : Type} [Inhabited α] {l : List α} {i : Nat} (h : i < l.length) : l[i]? = some (at' l i) := by
  simp [at', List.getD_eq_getElem?_getD, h]
theorem drop_at {α : Type} [Inhabited α] {l : List α} {i : Nat} (h : i < l.length) : l.drop i = at' l i :: l.drop (i + 1) := by
  rw [List.drop_eq_getElem_cons h]
  simp [at', List.getD_eq_getElem?_getD, h]
theorem IX_map {α : Type} [Inhabited α] {e : α → List T} {l : List α} {i : Nat} {g : List T → Prop} (h : i < l.length) (h2 : l[i]? = some (at' l i) → g (e (at' l i))) : IX (l.map e) i g := by
  have := at_some h
  simp only [IX, List.getElem?_map, this, Option.map_some]
  exact h2 this

end Go.Abs

namespace Go.Abs.E
open Go Go.Abs
/-! The same, what is not to be looked at held fast by a last word whose type names it. -/
def Hold {α : Sort _} (a : α) : Type := Unit
def GV (x : X) (g : V → Prop) (_h : Hold g) : Prop := Go.Abs.GV x g
def GB (b : Bool) (A B : Prop) (_h : Hold (A, B)) : Prop := Go.Abs.GB b A B
def GX (x : X) (A B : Prop) (_h : Hold (A, B)) : Prop := Go.Abs.GX x A B
def GG (x : X) (w : Bool) (A B : Prop) (_h : Hold (A, B)) : Prop := Go.Abs.GG x w A B
def GU (t : Option Tmp) (st : St) (w : Bool) (rs : List Loc) (A B : List Loc → Prop) (_h : Hold (st, rs, A, B)) : Prop := Go.Abs.GU t st w rs A B
def IX (es : List (List T)) (i : Nat) (g : List T → Prop) (_h : Hold g) : Prop := Go.Abs.IX es i g
def CX (t : Option T) (g : Nat → List (List T) → Prop) (_h : Hold g) : Prop := Go.Abs.CX t g
def RW (sz : Nat) (es : List (List T)) (p : Path) (g : Nat → List (List T) → Prop) (_h : Hold g) : Prop := Go.Abs.RW sz es p g
def FR (x : X) (A : Prop) (_h : Hold A) : Prop := Go.Abs.FR x A
def EN (x : X) (g : Ent → Prop) (_h : Hold g) : Prop := Go.Abs.EN x g
def CALL (P : Program) (f : Nat) (as : List A) (g : List A → List A → Prop) (_h : Hold g) : Prop := Go.Abs.CALL P f as g
def GO (x : Operand) (st : St) (rs : List Loc) (g : List Loc → V → Prop) (_h : Hold (x, st, rs, g)) : Prop := Go.Abs.GO x st rs g
def GOs (x : List Operand) (st : St) (rs : List Loc) (g : List Loc → List V → Prop) (_h : Hold (x, st, rs, g)) : Prop := Go.Abs.GOs x st rs g
def GPs (x : List (Nat × Operand)) (st : St) (rs : List Loc) (g : List Loc → List (Nat × V) → Prop) (_h : Hold (x, st, rs, g)) : Prop := Go.Abs.GPs x st rs g
def GVB (v : V) (g : Bool → Prop) (_h : Hold (v, g)) : Prop := Go.Abs.GVB v g
def KD (K : Ws → List Foot → Prop) (L : Ws) (fs : List Foot) (_h : Hold (K, fs)) : Prop := K L fs
def RM (P : Program) (md : Nat → Nat → Bool) (wr : Bool) (ops rest : List Oper) (L : Ws) (K : Ws → List Foot → Prop) (_h : Hold (P, md, wr, ops, rest, K)) : Prop := Go.Abs.RM P md wr ops rest L K
def RG (P : Program) (md : Nat → Nat → Bool) (wr dr : Bool) (ops rest : List Oper) (L : Ws) (acc : List Foot) (K : Ws → List Foot → Prop) (_h : Hold (P, md, wr, dr, ops, rest, acc, K)) : Prop := Go.Abs.RG P md wr dr ops rest L acc K
def CO (c : Operand) (L : Ws) (A B : Prop) (_h : Hold (c, L, A, B)) : Prop := Go.Abs.CO c L A B
def WQ (P : Program) (dr : Bool) (m : M) (st : St) (rs : List Loc) (K : List Loc → Ws → Prop) (_h : Hold (P, dr, st, rs, K)) : Prop := m.wq P dr st rs K

section
variable {P : Program} {md : Nat → Nat → Bool} {wr dr : Bool} {st : St} {rs : List Loc} {K : List Loc → Ws → Prop} {L L' : Ws} {ops rest : List Oper} {Ap Bp : Prop}
variable {d ty : Nat} {pos : String} {aft : Array Edge} {g : Option (Nat × Bool)}
variable {t : TypeId} {k : V → M} {m n : Int} {ik : IntKind}
theorem GV_v {v : V} {g : V → Prop} : GV (.v v) g () = g v := Go.Abs.GV_v
theorem GB_true : GB true Ap Bp () = Ap := Go.Abs.GB_true
theorem GB_false : GB false Ap Bp () = Bp := Go.Abs.GB_false
theorem GX_b {b : Bool} : GX (.v (.c (.v (.bool b)))) Ap Bp () = GB b Ap Bp () := Go.Abs.GX_b
theorem GG_t {b : Bool} : GG (.v (.c (.v (.bool b)))) true Ap Bp () = GB b Ap Bp () := Go.Abs.GG_t
theorem GG_f {b : Bool} : GG (.v (.c (.v (.bool b)))) false Ap Bp () = GB b Bp Ap () := Go.Abs.GG_f
theorem GG_u {w : Bool} : GG (.v .u) w Ap Bp () = Bp := Go.Abs.GG_u
theorem GU_some {t : Tmp} {w : Bool} {A B : List Loc → Prop} : GU (some t) st w rs A B () = GG (st (.s t)) w (A (.s t :: rs)) (B (.s t :: rs)) () := Go.Abs.GU_some
theorem IX_0 {e : List T} {es : List (List T)} {g : List T → Prop} : IX (e :: es) 0 g () = g e := Go.Abs.IX_0
theorem IX_s {e : List T} {es : List (List T)} {n : Nat} {g : List T → Prop} : IX (e :: es) (n + 1) g () = IX es n g () := Go.Abs.IX_s
theorem CX_s {sz : Nat} {es : List (List T)} {g : Nat → List (List T) → Prop} : CX (some (.s true sz es)) g () = g sz es := Go.Abs.CX_s
theorem RW_nil {sz : Nat} {es : List (List T)} {g : Nat → List (List T) → Prop} : RW sz es [] g () = g sz es := Go.Abs.RW_nil
theorem RW_cons {sz : Nat} {es : List (List T)} {i j : Nat} {p : Path} {g : Nat → List (List T) → Prop} : RW sz es ((i, j) :: p) g () = IX es i (fun el => CX el[j]? (fun sz es => RW sz es p g ()) ()) () := Go.Abs.RW_cons
theorem FR_none : FR .none Ap () = Ap := Go.Abs.FR_none
theorem EN_e {e : Ent} {g : Ent → Prop} : EN (.e e) g () = g e := Go.Abs.EN_e
theorem GO_tmp {t : Tmp} {g : List Loc → V → Prop} : GO (.tmp t) st rs g () = GV (st (.s t)) (fun v => g (.s t :: rs) v) () := Go.Abs.GO_tmp
theorem GO_int {k : IntKind} {n : Int} {g : List Loc → V → Prop} : GO (.const (.int k n)) st rs g () = g rs (.c (.v (.int k n))) := Go.Abs.GO_int
theorem GO_bool {b : Bool} {g : List Loc → V → Prop} : GO (.const (.bool b)) st rs g () = g rs (.c (.v (.bool b))) := Go.Abs.GO_bool
theorem GO_str {s : ByteArray} {g : List Loc → V → Prop} : GO (.const (.string s)) st rs g () = g rs (.c (.v (.string s))) := Go.Abs.GO_str
theorem GO_nil {g : List Loc → V → Prop} : GO (.const (.slice none 0 0)) st rs g () = g rs (.c .n) := Go.Abs.GO_nil
theorem GO_func {f : Nat} {g : List Loc → V → Prop} : GO (.func f) st rs g () = g rs (.f f []) := Go.Abs.GO_func
theorem GOs_nil {g : List Loc → List V → Prop} : GOs [] st rs g () = g rs [] := Go.Abs.GOs_nil
theorem GOs_cons {o : Operand} {os : List Operand} {g : List Loc → List V → Prop} : GOs (o :: os) st rs g () = GO o st rs (fun rs v => GOs os st rs (fun rs vs => g rs (v :: vs)) ()) () := Go.Abs.GOs_cons
theorem GPs_nil {g : List Loc → List (Nat × V) → Prop} : GPs [] st rs g () = g rs [] := Go.Abs.GPs_nil
theorem GPs_cons {i : Nat} {o : Operand} {os : List (Nat × Operand)} {g : List Loc → List (Nat × V) → Prop} : GPs ((i, o) :: os) st rs g () = GO o st rs (fun rs v => GPs os st rs (fun rs vs => g rs ((i, v) :: vs)) ()) () := Go.Abs.GPs_cons
theorem GVB_b {b : Bool} {g : Bool → Prop} : GVB (.c (.v (.bool b))) g () = g b := Go.Abs.GVB_b
theorem CO_tmp {t : Tmp} : CO (.tmp t) L Ap Bp () = GX (ofL L (.s t)) Ap Bp () := Go.Abs.CO_tmp
theorem CO_bool {b : Bool} : CO (.const (.bool b)) L Ap Bp () = GB b Ap Bp () := Go.Abs.CO_bool
theorem dstAt_0 {o : Oper} {os : List Oper} : dstAt (o :: os) 0 = o.dst := Go.Abs.dstAt_0
theorem dstAt_s {o : Oper} {os : List Oper} {n : Nat} : dstAt (o :: os) (n + 1) = dstAt os n := Go.Abs.dstAt_s
theorem RM_nil {K : Ws → List Foot → Prop} : RM P md wr ops [] L K () = K L [] := Go.Abs.RM_nil
theorem RM_cons {o : Oper} {K : Ws → List Foot → Prop} : RM P md wr ops (o :: rest) L K () = WQ P false (operM2 P md wr ops o) (ofL L) [] (fun rs ws => RM P md wr ops rest (ws ++ L) K ()) () := Go.Abs.RM_cons
theorem RG_nil {acc : List Foot} {K : Ws → List Foot → Prop} : RG P md wr dr ops [] L acc K () = KD K L acc () := Go.Abs.RG_nil
theorem RG_cons {o : Oper} {acc : List Foot} {K : Ws → List Foot → Prop} : RG P md wr dr ops (o :: rest) L acc K () = WQ P dr (operM2 P md wr ops o) (ofL L) [] (fun rs ws => RG P md wr dr ops rest (ws ++ L) (acc ++ [⟨rs, ws.map (·.1)⟩]) K ()) () := Go.Abs.RG_cons
theorem wq_ret {ws : Ws} : WQ P dr (M.ret ws) st rs K () = K rs ws := Go.Abs.wq_ret
theorem wq_req {p : Prop} {m : M} : WQ P dr (M.req p m) st rs K () = (p ∧ WQ P dr m st rs K ()) := Go.Abs.wq_req
theorem wq_bad : WQ P dr M.bad st rs K () = False := Go.Abs.wq_bad
theorem wq_call {f : Nat} {as : List A} {k : List A → List A → M} : WQ P dr (M.call f as k) st rs K () = CALL P f as (fun fin res => WQ P dr (k fin res) st rs K ()) () := Go.Abs.wq_call
theorem wq_get {l : Loc} {f : X → M} : WQ P dr (M.get l f) st rs K () = WQ P dr (f (st l)) st (l :: rs) K () := Go.Abs.wq_get
theorem wq_getO {x : Operand} {k : V → M} : WQ P dr (getO x k) st rs K () = GO x st rs (fun rs v => WQ P dr (k v) st rs K ()) () := Go.Abs.wq_getO
theorem wq_getOs {os : List Operand} {k : List V → M} : WQ P dr (getOs os k) st rs K () = GOs os st rs (fun rs vs => WQ P dr (k vs) st rs K ()) () := Go.Abs.wq_getOs _
theorem wq_getPs {os : List (Nat × Operand)} {k : List (Nat × V) → M} : WQ P dr (getPs os k) st rs K () = GPs os st rs (fun rs vs => WQ P dr (k vs) st rs K ()) () := Go.Abs.wq_getPs _
theorem wq_fresh {k : Go.Abs.K} {m : M} : WQ P dr (fresh k m) st rs K () = FR (st (.k k)) (WQ P dr m st (.k k :: rs) K ()) () := Go.Abs.wq_fresh
theorem wq_getR0 {k : Go.Abs.K} {ver : Nat} {p : Path} {f : Ent → Nat → List (List T) → M} : WQ P dr (getR [] k ver p f) st rs K () = EN (st (.k k)) (fun e => (p = [] ∨ e.ver = ver) ∧ RW e.sz e.es p (fun sz es => WQ P dr (f e sz es) st (.k k :: rs) K ()) ()) () := Go.Abs.wq_getR0
theorem wq_getR {l : Loc} {x : X} {ov : Ws} {k : Go.Abs.K} {ver : Nat} {p : Path} {f : Ent → Nat → List (List T) → M} : WQ P dr (getR ((l, x) :: ov) k ver p f) st rs K () = WQ P dr (getE ((l, x) :: ov) k fun e => .req (p = [] ∨ e.ver = ver) (match rowAt e.sz e.es p with
    | some (sz, es) => f e sz es
    | none => .bad)) st rs K () := Go.Abs.wq_getR
theorem wq_n {dd : Option Tmp} {op : Op} : WQ P dr (operM2 P md wr ops ⟨dd, op, ty, pos, aft, none⟩) st rs K () = WQ P dr (opM2 P md wr ⟨dd, op, ty, pos, aft, none⟩) st rs K () := Go.Abs.wq_n
theorem wq_g {op : Op} {j : Nat} {w : Bool} : WQ P dr (operM2 P md wr ops ⟨some d, op, ty, pos, aft, some (j, w)⟩) st rs K () = GU (dstAt ops j) st w rs (fun rs => WQ P dr (opM2 P md wr ⟨some d, op, ty, pos, aft, none⟩) st rs K ()) (fun rs => K rs [(.s d, .v .u)]) () := Go.Abs.wq_g
theorem wq_gn {op : Op} {j : Nat} {w : Bool} : WQ P dr (operM2 P md wr ops ⟨none, op, ty, pos, aft, some (j, w)⟩) st rs K () = GU (dstAt ops j) st w rs (fun rs => WQ P dr (opM2 P md wr ⟨none, op, ty, pos, aft, none⟩) st rs K ()) (fun rs => K rs []) () := Go.Abs.wq_gn
theorem q_move {x : Operand} : WQ P dr (opM2 P md wr ⟨some d, .move x, ty, pos, aft, g⟩) st rs K () = GO x st rs (fun rs v => K rs [(.s d, .v v)]) () := Go.Abs.q_move
theorem q_assign {x : Operand} : WQ P dr (opM2 P md wr ⟨some d, .assign x, ty, pos, aft, g⟩) st rs K () = GO x st rs (fun rs v => K rs [(.s d, .v v)]) () := Go.Abs.q_assign
theorem q_pick {c a b : Operand} : WQ P dr (opM2 P md wr ⟨some d, .pick c a b, ty, pos, aft, g⟩) st rs K () = GO c st rs (fun rs c => GVB c (fun t => GB t (GO a st rs (fun rs v => K rs [(.s d, .v v)]) ()) (GO b st rs (fun rs v => K rs [(.s d, .v v)]) ()) ()) ()) () := Go.Abs.q_pick
theorem q_bin {op : BinOp} {t yt : TypeId} {x y : Operand} : WQ P dr (opM2 P md false ⟨some d, .binOp op t x y yt, ty, pos, aft, g⟩) st rs K () = GO x st rs (fun rs x => GO y st rs (fun rs y => WQ P dr (bin2 P op t x y fun v => .ret [(.s d, .v v)]) st rs K ()) ()) () := Go.Abs.q_bin
theorem q_binw {op : BinOp} {t yt : TypeId} {x y : Operand} : WQ P dr (opM2 P md true ⟨some d, .binOp op t x y yt, ty, pos, aft, g⟩) st rs K () = GO x st rs (fun rs x => GO y st rs (fun rs y => WQ P dr (binM P op t x y fun v => .ret [(.s d, .v v)]) st rs K ()) ()) () := Go.Abs.q_binw
theorem q_un {op : UnOp} {t : TypeId} {x : Operand} : WQ P dr (opM2 P md wr ⟨some d, .unOp op t x, ty, pos, aft, g⟩) st rs K () = GO x st rs (fun rs x => WQ P dr (match op, x with
    | .not, .c (.v (.bool b)) => M.ret [(.s d, .v (.c (.v (.bool (!b)))))]
    | .neg, .c (.v (.int k n)) => .ret [(.s d, .v (.c (.v (.int k (k.wrap (0 - n))))))]
    | _, _ => .bad) st rs K ()) () := Go.Abs.q_un
theorem q_alloc {t : TypeId} : WQ P dr (opM2 P md wr ⟨some d, .alloc t, ty, pos, aft, g⟩) st rs K () = WQ P dr (match zeroOf P t, szOf P t with
  | some z, some n => fresh (d, 0) (.req (n ≠ 0 ∧ z.length = n) (.ret [(.s d, .v (.p (d, 0) 0 [] 0 0)), (.k (d, 0), .e ⟨0, n, [z]⟩)]))
  | _, _ => .bad) st rs K () := Go.Abs.q_alloc
theorem q_box {t : TypeId} {x : Operand} : WQ P dr (opM2 P md wr ⟨some d, .box t x, ty, pos, aft, g⟩) st rs K () = WQ P dr (match kinds P 12 t, szOf P t with
    | some ks, some n => getO x fun v => match v.cells with
      | some cs => fresh (d, 0) (.req (n ≠ 0 ∧ cs.length = n) (convs [] ks cs fun ov ts => .ret ((.s d, .v (.p (d, 0) 0 [] 0 0)) :: (.k (d, 0), .e ⟨0, n, [ts]⟩) :: ov)))
      | none => .bad
    | _, _ => .bad) st rs K () := Go.Abs.q_box
theorem q_build {t : TypeId} {parts : List (Nat × Operand)} : WQ P dr (opM2 P md wr ⟨some d, .build t parts.toArray, ty, pos, aft, g⟩) st rs K () = WQ P dr (match isStruct P t, zeroOf P t with
    | true, some z => getPs parts fun ps => fillC P t (zeroC z) ps fun cs => .ret [(.s d, .v (.a cs))]
    | _, _ => .bad) st rs K () := Go.Abs.q_build
theorem q_buildS {t : TypeId} {len : Nat} {parts : List (Nat × Operand)} : WQ P dr (opM2 P md wr ⟨some d, .buildSlice t len parts.toArray, ty, pos, aft, g⟩) st rs K () = WQ P dr (match elemOf P t with
    | some e => match kinds P 12 e, szOf P e with
      | some ks, some n => getPs parts fun ps => match partCells n 0 ps with
        | some css => fresh (d, 0) (.req (n ≠ 0 ∧ css.length = len ∧ len * n ≤ 16777216 ∧ (zeroOf P e).isSome = true) (convsL ks [] css fun ov es =>
          .ret ((.s d, .v (.c (.r (d, 0) 0 [] 0 len))) :: (.k (d, 0), .e ⟨0, n, es⟩) :: ov)))
        | none => .bad
      | _, _ => .bad
    | _ => .bad) st rs K () := Go.Abs.q_buildS
theorem q_makeS {t : TypeId} {l c : Operand} : WQ P dr (opM2 P md wr ⟨some d, .makeSlice t l c, ty, pos, aft, g⟩) st rs K () = WQ P dr (match elemOf P t with
    | some e => match zeroOf P e, szOf P e, bytesOf P e with
      | some z, some n, some by_ => getO l fun l => getO c fun c => match intV l, intV c with
        | some l, some c => fresh (d, 0) (.req (n ≠ 0 ∧ z.length = n ∧ 0 ≤ l ∧ l = c ∧ l.toNat * by_ ≤ 140737488355328 ∧ l.toNat ≤ 140737488355328) (.ret [(.s d, .v (.c (.r (d, 0) 0 [] 0 l.toNat))), (.k (d, 0), .e ⟨0, n, List.replicate l.toNat z⟩)]))
        | _, _ => .bad
      | _, _, _ => .bad
    | _ => .bad) st rs K () := Go.Abs.q_makeS
theorem wq_ixM {es : List (List T)} {i : Nat} {f : List T → M} : WQ P dr (ixM es i f) st rs K () = IX es i (fun el => WQ P dr (f el) st rs K ()) () := Go.Abs.wq_ixM
theorem q_load {t : TypeId} {a : Operand} : WQ P dr (opM2 P md wr ⟨some d, .load t a, ty, pos, aft, g⟩) st rs K () = WQ P dr (match szOf P t, aggOf P t with
    | some n, some g => getO a fun v => match v with
      | .p k ver p i off => getR [] k ver p fun e _ es => ixM es i fun el => .req (n ≠ 0 ∧ off + n ≤ el.length) (whole g (toC k e.ver p i off ((el.drop off).take n)) fun v => .ret [(.s d, .v v)])
      | .q _ es i off => ixM es i fun el => .req (n ≠ 0 ∧ off + n ≤ el.length) (whole g (toB ((el.drop off).take n)) fun v => .ret [(.s d, .v v)])
      | _ => .bad
    | _, _ => .bad) st rs K () := Go.Abs.q_load
theorem q_store {t : TypeId} {a x : Operand} : WQ P dr (opM2 P md wr ⟨none, .store t a x, ty, pos, aft, g⟩) st rs K () = WQ P dr (match szOf P t, kinds P 12 t with
    | some n, some ks => getO a fun a => getO x fun x => match a, x.cells with
      | .p k ver p i off, some cs => .req (cs.length = n ∧ n ≠ 0) (convs [] ks cs fun ov ts => getR ov k ver p fun e _ es => ixM es i fun el => .req (off + n ≤ el.length) (.ret ((.k k, .e ⟨if ts.all T.isV && ((el.drop off).take n).all T.isV then e.ver else e.ver + 1, e.sz, setRow e.es p (es.set i (splice el off ts))⟩) :: ov)))
      | _, _ => .bad
    | _, _ => .bad) st rs K () := Go.Abs.q_store
theorem q_nilCheck {x : Operand} : WQ P dr (opM2 P md wr ⟨some d, .nilCheck x, ty, pos, aft, g⟩) st rs K () = GO x st rs (fun rs v => WQ P dr (match v with
    | .p k ver p i off => M.ret [(.s d, .v (.p k ver p i off))]
    | .q sz es i off => .ret [(.s d, .v (.q sz es i off))]
    | _ => .bad) st rs K ()) () := Go.Abs.q_nilCheck
theorem q_slice {t : TypeId} {x : Operand} {lo hi : Option Operand} : WQ P dr (opM2 P md wr ⟨some d, .slice t x lo hi none, ty, pos, aft, g⟩) st rs K () = WQ P dr (match elemOf P t with
    | some e => match szOf P e with
      | some n => getO x fun x => getOpt lo fun lo => getOpt hi fun hi => match lenV x with
        | some m => .req (n ≠ 0) (optI lo 0 fun lo => optI hi m fun hi => sliceM n x lo hi fun v => .ret [(.s d, .v v)])
        | none => .bad
      | none => .bad
    | _ => .bad) st rs K () := Go.Abs.q_slice
theorem q_fieldAddr {t : TypeId} {x : Operand} {f : Nat} : WQ P dr (opM2 P md wr ⟨some d, .fieldAddr t x f, ty, pos, aft, g⟩) st rs K () = WQ P dr (match fieldOf P t f with
    | some (off, _, _) => getO x fun x => ptrTo x off fun v => .ret [(.s d, .v v)]
    | none => .bad) st rs K () := Go.Abs.q_fieldAddr
theorem q_field {t : TypeId} {x : Operand} {f : Nat} : WQ P dr (opM2 P md wr ⟨some d, .field t x f, ty, pos, aft, g⟩) st rs K () = WQ P dr (match fieldOf P t f with
    | some (off, n, g) => getO x fun x => match x with
      | .a cs => .req (off + n ≤ cs.length) (whole g ((cs.drop off).take n) fun v => .ret [(.s d, .v v)])
      | _ => .bad
    | none => .bad) st rs K () := Go.Abs.q_field
theorem q_indexAddr {t : TypeId} {x i : Operand} : WQ P dr (opM2 P md wr ⟨some d, .indexAddr t x i, ty, pos, aft, g⟩) st rs K () = WQ P dr (match elemOf P t with
    | some e => match szOf P e with
      | some n => getO x fun x => getO i fun i => match intV i with
        | some i => match x with
          | .c (.b sz es) => .req (0 ≤ i ∧ i < es.length ∧ sz = n) (.ret [(.s d, .v (.q sz es i.toNat 0))])
          | .c (.r k ver p off len) => getR [] k ver p fun _ sz es => .req (0 ≤ i ∧ i < len ∧ off + len ≤ es.length ∧ sz = n) (.ret [(.s d, .v (.p k ver p (off + i.toNat) 0))])
          | _ => .bad
        | none => .bad
      | none => .bad
    | none => .bad) st rs K () := Go.Abs.q_indexAddr
theorem q_extract {x : Operand} {n : Nat} : WQ P dr (opM2 P md wr ⟨some d, .extract x n, ty, pos, aft, g⟩) st rs K () = GO x st rs (fun rs x => WQ P dr (match x with
    | .t vs => match vs[n]? with
      | some v => M.ret [(.s d, .v v)]
      | none => .bad
    | _ => .bad) st rs K ()) () := Go.Abs.q_extract
theorem q_makeFunc {f : Nat} {caps : List Operand} : WQ P dr (opM2 P md wr ⟨some d, .makeFunc (.func f) #[] caps.toArray, ty, pos, aft, g⟩) st rs K () = GOs caps st rs (fun rs vs => K rs [(.s d, .v (.f f vs))]) () := Go.Abs.q_makeFunc
theorem q_call {f : Nat} {args : List Operand} {tys : List TypeId} : WQ P dr (opM2 P md wr ⟨some d, .call ⟨.value (.func f), args.toArray, tys.toArray⟩, ty, pos, aft, g⟩) st rs K () = GOs args st rs (fun rs vs => WQ P dr (callM P md f [] tys vs d) st rs K ()) () := Go.Abs.q_call
theorem q_callT {f : Nat} {args : List Operand} {tys : List TypeId} : WQ P dr (opM2 P md wr ⟨some d, .call ⟨.value (.tmp f), args.toArray, tys.toArray⟩, ty, pos, aft, g⟩) st rs K () = GO (.tmp f) st rs (fun rs f => GOs args st rs (fun rs vs => WQ P dr (match f with
      | .f fn caps => callM P md fn caps tys vs d
      | _ => .bad) st rs K ()) ()) () := Go.Abs.q_callT
theorem q_len {x : Operand} {t : TypeId} : WQ P dr (opM2 P md wr ⟨some d, .call ⟨.builtin .len, #[x], #[t]⟩, ty, pos, aft, g⟩) st rs K () = WQ P dr (match elemOf P t with
        | some _ => getO x fun x => match lenV x with
          | some n => M.ret [(.s d, .v (.c (.v (.int .i64 n))))]
          | none => .bad
        | none => .bad) st rs K () := Go.Abs.q_len
theorem q_append {s x : Operand} {t t' : TypeId} : WQ P dr (opM2 P md wr ⟨some d, .call ⟨.builtin .append, #[s, x], #[t, t']⟩, ty, pos, aft, g⟩) st rs K () = WQ P dr (match elemOf P t' with
        | some _ => getO s fun s => getO x fun x => appendM P t d s x
        | none => .bad) st rs K () := Go.Abs.q_append
theorem q_min {x y : Operand} {tys : Array TypeId} : WQ P dr (opM2 P md wr ⟨some d, .call ⟨.builtin .min, #[x, y], tys⟩, ty, pos, aft, g⟩) st rs K () = GO x st rs (fun rs x => GO y st rs (fun rs y => WQ P dr (match minV x y with
        | some v => M.ret [(.s d, .v v)]
        | none => .bad) st rs K ()) ()) () := Go.Abs.q_min
theorem q_max {x y : Operand} {tys : Array TypeId} : WQ P dr (opM2 P md wr ⟨some d, .call ⟨.builtin .max, #[x, y], tys⟩, ty, pos, aft, g⟩) st rs K () = GO x st rs (fun rs x => GO y st rs (fun rs y => WQ P dr (match maxV x y with
        | some v => M.ret [(.s d, .v v)]
        | none => .bad) st rs K ()) ()) () := Go.Abs.q_max
theorem b_add : WQ P dr (bin2 P .add t (.c (.v (.int .i64 m))) (.c (.v (.int .i64 n))) k) st rs K () = (in64 (m + n) ∧ WQ P dr (k (.c (.v (.int .i64 (m + n))))) st rs K ()) := Go.Abs.b_add
theorem b_sub : WQ P dr (bin2 P .sub t (.c (.v (.int .i64 m))) (.c (.v (.int .i64 n))) k) st rs K () = (in64 (m - n) ∧ WQ P dr (k (.c (.v (.int .i64 (m - n))))) st rs K ()) := Go.Abs.b_sub
theorem b_mul : WQ P dr (bin2 P .mul t (.c (.v (.int .i64 m))) (.c (.v (.int .i64 n))) k) st rs K () = (in64 (m * n) ∧ WQ P dr (k (.c (.v (.int .i64 (m * n))))) st rs K ()) := Go.Abs.b_mul
theorem b_eql : WQ P dr (bin2 P .eql t (.c (.v (.int ik m))) (.c (.v (.int ik n))) k) st rs K () = WQ P dr (k (.c (.v (.bool (m == n))))) st rs K () := Go.Abs.b_eql
theorem b_neq : WQ P dr (bin2 P .neq t (.c (.v (.int ik m))) (.c (.v (.int ik n))) k) st rs K () = WQ P dr (k (.c (.v (.bool (m != n))))) st rs K () := Go.Abs.b_neq
theorem b_lss : WQ P dr (bin2 P .lss t (.c (.v (.int ik m))) (.c (.v (.int ik n))) k) st rs K () = WQ P dr (k (.c (.v (.bool (decide (m < n)))))) st rs K () := Go.Abs.b_lss
theorem b_leq : WQ P dr (bin2 P .leq t (.c (.v (.int ik m))) (.c (.v (.int ik n))) k) st rs K () = WQ P dr (k (.c (.v (.bool (decide (m ≤ n)))))) st rs K () := Go.Abs.b_leq
theorem b_gtr : WQ P dr (bin2 P .gtr t (.c (.v (.int ik m))) (.c (.v (.int ik n))) k) st rs K () = WQ P dr (k (.c (.v (.bool (decide (n < m)))))) st rs K () := Go.Abs.b_gtr
theorem b_geq : WQ P dr (bin2 P .geq t (.c (.v (.int ik m))) (.c (.v (.int ik n))) k) st rs K () = WQ P dr (k (.c (.v (.bool (decide (n ≤ m)))))) st rs K () := Go.Abs.b_geq
theorem b_boolM {op : BinOp} {x y : Bool} : bin2 P op t (.c (.v (.bool x))) (.c (.v (.bool y))) k = match P.underlying t, op with
    | some .bool, .eql => k (.c (.v (.bool (x == y))))
    | some .bool, .neq => k (.c (.v (.bool (!(x == y)))))
    | _, _ => .bad := Go.Abs.b_boolM
theorem b_strM {op : BinOp} {x y : ByteArray} : bin2 P op t (.c (.v (.string x))) (.c (.v (.string y))) k = match op with
    | .add => .req (x.size + y.size ≤ 1073741824) (k (.c (.v (.string (x ++ y)))))
    | .eql => k (.c (.v (.bool (x.toList == y.toList))))
    | .neq => k (.c (.v (.bool !(x.toList == y.toList))))
    | _ => .bad := Go.Abs.b_strM
theorem b_aggM {op : BinOp} {xs ys : List C} : bin2 P op t (.a xs) (.a ys) k = match allV xs, allV ys with
    | some xs, some ys => match isStruct P t, P.eqGuardType P.depth t, flatEq P 12 t with
      | true, false, some ks => match eqVs ks xs ys, op with
        | some r, .eql => k (.c (.v (.bool r)))
        | some r, .neq => k (.c (.v (.bool (!r))))
        | _, _ => .bad
      | _, _, _ => .bad
    | _, _ => .bad := Go.Abs.b_aggM
end
section
variable {P : Program} {md : Nat → Nat → Bool} {n np : Nat} {L : Ws} {QA : Exit → St → Prop} {Ap Bp : Prop}
theorem CALL.use {f : Nat} {as fin res : List A} {g : List A → List A → Prop} (h : Fn P f as fin res) (h2 : g fin res) : CALL P f as g () := ⟨fin, res, h, h2⟩
theorem GB.use {b : Bool} (h1 : b = true → Ap) (h2 : b = false → Bp) : GB b Ap Bp () := ⟨h1, h2⟩
theorem IX_map {α : Type} [Inhabited α] {e : α → List T} {l : List α} {i : Nat} {g : List T → Prop} (h : i < l.length) (h2 : l[i]? = some (at' l i) → g (e (at' l i))) : IX (l.map e) i g () := Go.Abs.IX_map h h2
theorem condC {c : Operand} {x y : Code} (h : CO c L (AW P n np x (ofL L) QA) (AW P n np y (ofL L) QA) ()) : AW P n np (.cond c x y) (ofL L) QA := AW.condC h
theorem runM {id : Nat} {os : List Oper} {y : Code} (wr : Bool) (hn : (os.all fun o => match o.dst with | some t => Nat.blt t n | none => true) = true) (h : ∀ K : Ws → List Foot → Prop, (∀ L' fs, AW P n np y (ofL L') QA → K L' fs) → RM P md wr os os L K ()) : AW P n np (.seq (.region id os.toArray false) y) (ofL L) QA := AW.runM (md := md) wr hn h
theorem runME {id : Nat} {os : List Oper} (wr : Bool) (hn : (os.all fun o => match o.dst with | some t => Nat.blt t n | none => true) = true) (h : ∀ K : Ws → List Foot → Prop, (∀ L' fs, QA .normal (ofL L') → K L' fs) → RM P md wr os os L K ()) : AW P n np (.region id os.toArray false) (ofL L) QA := AW.runME (md := md) wr hn h
theorem drawM {id : Nat} {os : List Oper} {y : Code} (hmix : P.follows .mixedOrders = true) (wr : Bool) (hn : (os.all fun o => match o.dst with | some t => Nat.blt t n | none => true) = true) (h : ∀ K : Ws → List Foot → Prop, (∀ L' fs, indep os fs = true → AW P n np y (ofL L') QA → KD K L' fs ()) → RG P md wr true os os L [] K ()) : AW P n np (.seq (.region id os.toArray true) y) (ofL L) QA := AW.draw (md := md) hmix wr hn h
theorem drawME {id : Nat} {os : List Oper} (hmix : P.follows .mixedOrders = true) (wr : Bool) (hn : (os.all fun o => match o.dst with | some t => Nat.blt t n | none => true) = true) (h : ∀ K : Ws → List Foot → Prop, (∀ L' fs, indep os fs = true → QA .normal (ofL L') → KD K L' fs ()) → RG P md wr true os os L [] K ()) : AW P n np (.region id os.toArray true) (ofL L) QA := AW.drawE (md := md) hmix wr hn h
end
end Go.Abs.E

namespace Go.Abs.E
open Go Go.Abs

abbrev KX := Exit → Ws → Prop

def INDEP (os : List Oper) (fs : List Foot) (_h : Hold (os, fs)) : Prop := indep os fs = true
theorem INDEP.mk {os : List Oper} {fs : List Foot} (h : indep os fs = true) : INDEP os fs () := h

/-- conditions of code over states -/
def VC (P : Program) (md : Nat → Nat → Bool) (wr : Bool) (n np : Nat) : Code → Ws → KX → Prop
  | .skip, L, K => K .normal L
  | .region _ ops false, L, K => RM P md wr ops.toList ops.toList L (fun L _ => K .normal L) ()
  | .region _ ops true, L, K => RG P md wr true ops.toList ops.toList L [] (fun L fs => INDEP ops.toList fs () ∧ K .normal L) ()
  | .seq a b, L, K => VC P md wr n np a L fun e L' => match e with
    | .normal => VC P md wr n np b L' K
    | e => K e L'
  | .cond c x y, L, K => CO c L (VC P md wr n np x L K) (VC P md wr n np y L K) ()
  | .block id b, L, K => VC P md wr n np b L fun e L' => match e with
    | .exit id' => if id' = id then K .normal L' else K (.exit id') L'
    | e => K e L'
  | .loop b, L, K => AW P n np (.loop b) (ofL L) fun e st => ∃ L', st = ofL L' ∧ K e L'
  | .exit id, L, K => K (.exit id) L
  | .ret, L, K => K .ret L
  | _, _, _ => False

def dstsOK (n : Nat) : Code → Bool
  | .region _ ops _ => ops.toList.all fun o => match o.dst with | some t => Nat.blt t n | none => true
  | .seq a b => dstsOK n a && dstsOK n b
  | .cond _ x y => dstsOK n x && dstsOK n y
  | .block _ b => dstsOK n b
  | .loop b => dstsOK n b
  | _ => true

variable {P : Program} {md : Nat → Nat → Bool} {wr : Bool} {n np : Nat}

theorem VC_ok (hmix : P.follows .mixedOrders = true) : ∀ (c : Code) (L : Ws) (K : KX), dstsOK n c = true → VC P md wr n np c L K → AW P n np c (ofL L) fun e st => ∃ L', st = ofL L' ∧ K e L'
  | .skip, L, K, hd, h => AW.skip ⟨L, rfl, h⟩
  | .region id ops false, L, K, hd, h => by
    rw [show ops = ops.toList.toArray from (Array.toArray_toList).symm] at hd ⊢
    exact AW.runME (md := md) wr hd fun K' hK => RG_mono (fun L fs h => hK L [] ⟨L, rfl, h⟩) _ _ _ h
  | .region id ops true, L, K, hd, h => by
    rw [show ops = ops.toList.toArray from (Array.toArray_toList).symm] at hd ⊢
    exact AW.drawE (md := md) hmix wr hd fun K' hK => RG_mono (fun L fs h => hK L fs h.1 ⟨L, rfl, h.2⟩) _ _ _ h
  | .seq a b, L, K, hd, h => by
    simp only [dstsOK, Bool.and_eq_true] at hd
    refine AW.seq (AW.mono (VC_ok hmix a L _ hd.1 h) ?_)
    rintro e st ⟨L', rfl, h⟩
    cases e with
    | normal => exact VC_ok hmix b L' K hd.2 h
    | _ => exact ⟨L', rfl, h⟩
  | .cond c x y, L, K, hd, h => by
    simp only [dstsOK, Bool.and_eq_true] at hd
    refine AW.condC (h := ?_)
    have hx := VC_ok hmix x L K hd.1
    have hy := VC_ok hmix y L K hd.2
    simp only [VC, CO] at h
    revert h
    unfold Go.Abs.CO Go.Abs.GX Go.Abs.GB
    intro h
    split at h
    · split at h
      · exact ⟨fun hb => hx (h.1 hb), fun hb => hy (h.2 hb)⟩
      · exact h
    · exact ⟨fun hb => hx (h.1 hb), fun hb => hy (h.2 hb)⟩
    · exact h
  | .block id b, L, K, hd, h => by
    refine AW.block (AW.mono (VC_ok hmix b L _ hd h) ?_)
    rintro e st ⟨L', rfl, h⟩
    cases e with
    | exit id' =>
      try simp only [] at h
      simp only [ABlock]
      split
      · rename_i hid; rw [if_pos hid] at h; exact ⟨L', rfl, h⟩
      · rename_i hid; rw [if_neg hid] at h; exact ⟨L', rfl, h⟩
    | _ => exact ⟨L', rfl, h⟩
  | .loop b, L, K, hd, h => h
  | .exit id, L, K, hd, h => AW.exit ⟨L, rfl, h⟩
  | .ret, L, K, hd, h => AW.ret ⟨L, rfl, h⟩

/-! what is not wanted yet is held -/
def EV (P : Program) (md : Nat → Nat → Bool) (wr : Bool) (n np : Nat) (c : Code) (L : Ws) (K : KX) (_h : Hold (P, md, wr, n, np, c, K)) : Prop := VC P md wr n np c L K
def SQ (P : Program) (md : Nat → Nat → Bool) (wr : Bool) (n np : Nat) (b : Code) (K : KX) (e : Exit) (L : Ws) (_h : Hold (P, md, wr, n, np, b, K)) : Prop := match e with
  | .normal => VC P md wr n np b L K
  | e => K e L
def BL (id : Nat) (K : KX) (e : Exit) (L : Ws) (_h : Hold (id, K)) : Prop := match e with
  | .exit id' => if id' = id then K .normal L else K (.exit id') L
  | e => K e L
def LP (R : Ws → Prop) (K : KX) (e : Exit) (L : Ws) (_h : Hold (R, K)) : Prop := match e with
  | .normal => R L
  | e => K e L

section
variable {K : KX} {L : Ws} {a b x y : Code} {id : Nat} {R : Ws → Prop}
theorem ev_skip : EV P md wr n np .skip L K () = K .normal L := rfl
theorem ev_region {ops : List Oper} : EV P md wr n np (.region id ops.toArray false) L K () = RM P md wr ops ops L (fun L _ => K .normal L) () := rfl
theorem ev_draw {ops : List Oper} : EV P md wr n np (.region id ops.toArray true) L K () = RG P md wr true ops ops L [] (fun L fs => INDEP ops fs () ∧ K .normal L) () := rfl
theorem ev_seq : EV P md wr n np (.seq a b) L K () = EV P md wr n np a L (fun e L => SQ P md wr n np b K e L ()) () := rfl
theorem ev_cond {c : Operand} : EV P md wr n np (.cond c x y) L K () = CO c L (EV P md wr n np x L K ()) (EV P md wr n np y L K ()) () := rfl
theorem ev_block : EV P md wr n np (.block id b) L K () = EV P md wr n np b L (fun e L => BL id K e L ()) () := rfl
theorem ev_exit : EV P md wr n np (.exit id) L K () = K (.exit id) L := rfl
theorem ev_ret : EV P md wr n np .ret L K () = K .ret L := rfl
theorem sq_n : SQ P md wr n np b K .normal L () = EV P md wr n np b L K () := rfl
theorem sq_e : SQ P md wr n np b K (.exit id) L () = K (.exit id) L := rfl
theorem sq_r : SQ P md wr n np b K .ret L () = K .ret L := rfl
theorem bl_n : BL id K .normal L () = K .normal L := rfl
theorem bl_e {id' : Nat} : BL id K (.exit id') L () = if id' = id then K .normal L else K (.exit id') L := rfl
theorem bl_r : BL id K .ret L () = K .ret L := rfl
theorem lp_n : LP R K .normal L () = R L := rfl
theorem lp_e : LP R K (.exit id) L () = K (.exit id) L := rfl
theorem lp_r : LP R K .ret L () = K .ret L := rfl
theorem kd_k {K : Ws → List Foot → Prop} {fs : List Foot} : KD K L fs () = K L fs := rfl
end

/-- the end -/
def FK (P : Program) (rs : List ResultVar) (tys : List TypeId) (al fin res : List A) (e : Exit) (L : Ws) (_h : Hold (P, rs, tys, al, fin, res, e)) : Prop :=
  (e = .normal ∨ e = .ret) ∧ (resultsM P rs fun vs => outM P [] vs tys fun ov rs => .req (rs = res) (.ret ov)).wq P false (ofL L) [] fun _ ov => fin = finAs (app ov (ofL L)) 0 al

theorem fk_n {rs : List ResultVar} {tys : List TypeId} {al fin res : List A} {L : Ws} : FK P rs tys al fin res .normal L () = WQ P false (resultsM P rs fun vs => outM P [] vs tys fun ov rs => .req (rs = res) (.ret ov)) (ofL L) [] (fun _ ov => fin = finAs (app ov (ofL L)) 0 al) () := by
  simp [FK, WQ]
theorem fk_r {rs : List ResultVar} {tys : List TypeId} {al fin res : List A} {L : Ws} : FK P rs tys al fin res .ret L () = WQ P false (resultsM P rs fun vs => outM P [] vs tys fun ov rs => .req (rs = res) (.ret ov)) (ofL L) [] (fun _ ov => fin = finAs (app ov (ofL L)) 0 al) () := by
  simp [FK, WQ]

theorem Fn.ev {f : Nat} {fn : Func} {c : Code} {al fin res : List A} {rs : List ResultVar} {tys : List TypeId} {n : Nat} (md : Nat → Nat → Bool) (wr : Bool) (hmix : P.follows .mixedOrders = true) (hf : P.funcs[f]? = some fn) (hb : fn.body = some c) (hname : fn.name ≠ "runtime.NumGoroutine") (hnt : fn.ntmps = n) (hn : al.length ≤ n) (hd : dstsOK n c = true)
    (hr : fn.results.toList = rs) (ht : fn.resultTypes.toList = tys) (hfin : finOK fin = true) (hres : resOK res = true)
    (h : EV P md wr n al.length c (entryL 0 al) (fun e L => FK P rs tys al fin res e L ()) ()) : Go.Abs.Fn P f al fin res := by
  subst hnt
  refine Go.Abs.Fn.of hf hb hname hn hfin hres ?_
  rw [entrySt_eq]
  refine AW.mono (VC_ok hmix c _ _ hd h) ?_
  rintro e st ⟨L', rfl, h1, h2⟩
  refine ⟨h1, ?_⟩
  unfold ExitOK
  rw [hr, ht]
  exact M.wq_wp _ _ h2

/-- a smaller state, looked at entry by entry -/
def SB (np : Nat) (M : Ws) (L : Ws) : Prop := Sub1 (ofL L) M ∧ subKeys np L M = true

/-- A LOOP -/
theorem loop {ι : Type} {c : Code} {L : Ws} {K : KX} (S : ι → Ws) (meas : ι → Nat) (ok : ι → Prop) (hmix : P.follows .mixedOrders = true) (hd : dstsOK n c = true) (i0 : ι) (h0 : ok i0) (hs : SB np (S i0) L)
    (round : ∀ i, ok i → EV P md wr n np c (S i) (fun e L => LP (fun L' => ∃ j, meas j < meas i ∧ ok j ∧ SB np (S j) L') K e L ()) ()) : EV P md wr n np (.loop c) L K () := by
  refine AW.loopL S meas ok i0 h0 (Sub.of hs.1 hs.2) fun i hi => ?_
  refine AW.mono (VC_ok hmix c _ _ hd (round i hi)) ?_
  rintro e st ⟨L', rfl, h⟩
  cases e with
  | normal => obtain ⟨j, h1, h2, h3⟩ := h; exact ⟨j, h1, h2, Sub.of h3.1 h3.2⟩
  | _ => exact ⟨L', rfl, h⟩

end Go.Abs.E

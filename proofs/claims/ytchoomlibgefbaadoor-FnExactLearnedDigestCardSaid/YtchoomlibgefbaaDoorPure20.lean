/- More plain facts. No condition. -/
import Derived.Test.YtchoomlibgefbaaDoorPure19
import Derived.Lib.ItoaNum
set_option linter.unusedVariables false
set_option linter.unusedSimpArgs false
namespace Go.Abs
open Go
section
/-! numbers as texts, texts of entries, sums over texts -/
def eStr (x : ByteArray) : List T := [.v (.string x)]
theorem eStr_eq (x : ByteArray) : eStr x = [.v (.string x)] := rfl
theorem own_eStr (l : List ByteArray) : ownEs (l.map eStr) = true := E.ownEs_map (fun _ => rfl) l
theorem bor_eStr (l : List ByteArray) : borEs (l.map eStr) = l.map eStr := E.borEs_map (fun _ => rfl) l
theorem scal_eStr (l : List ByteArray) : scalEs (l.map eStr) = true := E.scalEs_map (fun _ => rfl) l
theorem one_eStr (l : List ByteArray) : oneEs (l.map eStr) = true := E.oneEs_map (fun _ => rfl) l
theorem sz_eStr (l : List ByteArray) : szEs (l.map eStr) = true := szEs_map (fun _ => rfl) l
theorem sub1N (i : Nat) : ((i : Int) + 1 - i).toNat = 1 := by omega
theorem dd_lo {u : Nat} (h : u < 10) : Go.Lib.decDigits u = [UInt8.ofNat (48 + u)] := by rw [Go.Lib.decDigits, dif_pos h]
theorem dd_hi {u : Nat} (h : ¬ u < 10) : Go.Lib.decDigits u = Go.Lib.decDigits (u / 10) ++ [UInt8.ofNat (48 + u % 10)] := by
  conv => lhs; rw [Go.Lib.decDigits, dif_neg h]
def itoaB (n : Int) : ByteArray := if n < 100 then ⟨(Go.Lib.decDigits n.toNat).toArray⟩ else ⟨#[]⟩
theorem itoaB_nat {n : Nat} (h : n < 100) : itoaB n = ⟨(Go.Lib.decDigits n).toArray⟩ := by
  unfold itoaB; rw [if_pos (by omega)]; rfl
theorem itoaB_size (n : Int) : (itoaB n).size ≤ 2 := by
  unfold itoaB
  split
  · by_cases h : n.toNat < 10
    · rw [dd_lo h]; simp [ByteArray.size]
    · rw [dd_hi h, dd_lo (by omega)]; simp [ByteArray.size]
  · simp [ByteArray.size]
theorem ba_app (a b : List UInt8) : (⟨a.toArray⟩ : ByteArray) ++ ⟨b.toArray⟩ = ⟨(a ++ b).toArray⟩ := by
  apply ByteArray.ext
  simp [ByteArray.data_append]
theorem ba_nil (a : ByteArray) : (⟨#[]⟩ : ByteArray) ++ a = a := by
  apply ByteArray.ext
  simp [ByteArray.data_append]
theorem ba_nil_r (a : ByteArray) : a ++ (⟨#[]⟩ : ByteArray) = a := by
  apply ByteArray.ext
  simp [ByteArray.data_append]
theorem ba_assoc (a b c : ByteArray) : a ++ b ++ c = a ++ (b ++ c) := by
  apply ByteArray.ext
  simp [ByteArray.data_append]
/-- the digits that a loop lays down from behind -/
structure FI (n m : Int) (out : ByteArray) : Prop where
  lo : 0 ≤ m
  hi : m ≤ 99
  z : m = 0 → out = itoaB n
  nz : m ≠ 0 → itoaB m ++ out = itoaB n
theorem FI.start {n : Int} (h0 : 0 ≤ n) (h1 : n ≤ 99) (h : n ≠ 0) : FI n n ⟨#[]⟩ := ⟨h0, h1, fun e => absurd e h, fun _ => ba_nil_r _⟩
theorem digB {m : Nat} (h : m < 10) : itoaB m = ⟨#[UInt8.ofNat (48 + m)]⟩ := by
  rw [itoaB_nat (by omega), dd_lo h]
theorem FI.next {n m : Int} {out : ByteArray} (h : FI n m out) (hm : m ≠ 0) : FI n (m / 10) (⟨#[UInt8.ofNat (48 + m % 10).toNat]⟩ ++ out) := by
  have h0 := h.lo; have h1 := h.hi
  obtain ⟨k, rfl⟩ : ∃ k : Nat, m = k := ⟨m.toNat, by omega⟩
  have hk : k < 100 := by omega
  have e1 : ((k : Int) / 10) = ((k / 10 : Nat) : Int) := by omega
  have e2 : (48 + (k : Int) % 10).toNat = 48 + k % 10 := by omega
  rw [e1, e2]
  have hn := h.nz hm
  refine ⟨by omega, by omega, fun hz => ?_, fun hz => ?_⟩
  · have hk2 : k < 10 := by omega
    rw [← hn, digB hk2, Nat.mod_eq_of_lt hk2]
  · have hk2 : ¬ k < 10 := by omega
    have e3 : itoaB (k : Int) = itoaB ((k / 10 : Nat) : Int) ++ ⟨#[UInt8.ofNat (48 + k % 10)]⟩ := by
      rw [itoaB_nat hk, itoaB_nat (by omega), dd_hi hk2]
      exact (ba_app _ _).symm
    rw [← hn, e3, ba_assoc]
theorem FI.sz {n m : Int} {out : ByteArray} (h : FI n m out) (hm : m ≠ 0) : out.size ≤ 2 := by
  have h1 := congrArg ByteArray.size (h.nz hm)
  rw [ByteArray.size_append] at h1
  have := itoaB_size n
  omega
theorem itoaB_0 : itoaB 0 = ⟨#[48]⟩ := by
  have := digB (m := 0) (by decide)
  exact this
theorem wrap64_id {n : Int} (h0 : 0 ≤ n) (h1 : n ≤ 1048576) : IntKind.i64.wrap n = n := by
  simp [IntKind.wrap, IntKind.bits]; omega
theorem wrap8_id {n : Int} (h0 : 0 ≤ n) (h1 : n ≤ 255) : IntKind.u8.wrap n = n := by
  simp [IntKind.wrap, IntKind.bits, IntKind.signed]; omega
theorem tdiv10 {m : Int} (h0 : 0 ≤ m) : m.tdiv 10 = m / 10 := by rw [Int.tdiv_eq_ediv_of_nonneg h0]
theorem tmod10 {m : Int} (h0 : 0 ≤ m) : m.tmod 10 = m % 10 := by rw [Int.tmod_eq_emod_of_nonneg h0]
theorem FI.nextW {n m : Int} {out : ByteArray} (h : FI n m out) (hm : m ≠ 0) : FI n (IntKind.i64.wrap (m.tdiv 10)) (⟨#[UInt8.ofNat (IntKind.u8.wrap (48 + m.tmod 10)).toNat]⟩ ++ out) := by
  have h0 := h.lo; have h1 := h.hi
  rw [tdiv10 h0, tmod10 h0, wrap64_id (by omega) (by omega), wrap8_id (by omega) (by omega)]
  exact h.next hm
/-! sums -/
theorem byteAt_b (s : ByteArray) (i : Nat) : 0 ≤ byteAt s i ∧ byteAt s i ≤ 255 := by
  unfold byteAt
  split
  · rename_i b _
    have := b.toNat_lt
    omega
  · omega
theorem wrap_byte (s : ByteArray) (i : Nat) : IntKind.i64.wrap (byteAt s i) = byteAt s i := by
  have := byteAt_b s i
  exact wrap64_id this.1 (by omega)
def chkTo (s : ByteArray) : Nat → Int
  | 0 => 5
  | i + 1 => (257 * chkTo s i + byteAt s i + 1).tmod 9949
def chk (s : ByteArray) : Int := chkTo s s.size
theorem chkTo_b (s : ByteArray) : ∀ i, 0 ≤ chkTo s i ∧ chkTo s i ≤ 9948
  | 0 => by simp [chkTo]
  | i + 1 => by
    have h := chkTo_b s i
    have h2 := byteAt_b s i
    simp only [chkTo]
    rw [Int.tmod_eq_emod_of_nonneg (by omega)]
    omega
theorem chk_b (s : ByteArray) : 0 ≤ chk s ∧ chk s ≤ 9948 := chkTo_b s _
theorem chkTo_in (s : ByteArray) (i : Nat) : in64 (257 * chkTo s i) ∧ in64 (chkTo s i * 257) ∧ in64 (257 * chkTo s i + byteAt s i) ∧ in64 (chkTo s i * 257 + byteAt s i) ∧ in64 (257 * chkTo s i + byteAt s i + 1) ∧ in64 (chkTo s i * 257 + byteAt s i + 1) := by
  have h := chkTo_b s i
  have h2 := byteAt_b s i
  unfold in64
  omega
/-! the texts of operations and entries -/
def fmtOp (o : ROp) : ByteArray :=
  if o.kind = 2 then itoaB o.client ++ ⟨#[46]⟩ ++ itoaB o.seq ++ ⟨#[32, 115, 119, 97, 112, 32]⟩ ++ itoaB o.obj ++ ⟨#[32]⟩ ++ itoaB o.old ++ ⟨#[32]⟩ ++ itoaB o.val
  else itoaB o.client ++ ⟨#[46]⟩ ++ itoaB o.seq ++ ⟨#[32, 119, 114, 105, 116, 101, 32]⟩ ++ itoaB o.obj ++ ⟨#[32]⟩ ++ itoaB o.val
def fmtE (e : LEnt) : ByteArray := itoaB e.epoch ++ ⟨#[58]⟩ ++ fmtOp e.op
theorem op_in {o : ROp} (h : validOp o = true) : 0 ≤ o.client ∧ o.client ≤ 2 ∧ 1 ≤ o.seq ∧ o.seq ≤ 99 ∧ 0 ≤ o.obj ∧ o.obj ≤ 2 ∧ 0 ≤ o.val ∧ o.val ≤ 9 ∧ 0 ≤ o.old ∧ o.old ≤ 9 ∧ (o.kind = 1 ∨ o.kind = 2) := by
  simp only [validOp, inR, Bool.and_eq_true, Bool.or_eq_true, decide_eq_true_eq, beq_iff_eq] at h
  omega
theorem fmtOp_2 {o : ROp} (h : o.kind = 2) : fmtOp o = itoaB o.client ++ ⟨#[46]⟩ ++ itoaB o.seq ++ ⟨#[32, 115, 119, 97, 112, 32]⟩ ++ itoaB o.obj ++ ⟨#[32]⟩ ++ itoaB o.old ++ ⟨#[32]⟩ ++ itoaB o.val := by unfold fmtOp; rw [if_pos h]
theorem fmtOp_1 {o : ROp} (h : ¬ o.kind = 2) : fmtOp o = itoaB o.client ++ ⟨#[46]⟩ ++ itoaB o.seq ++ ⟨#[32, 119, 114, 105, 116, 101, 32]⟩ ++ itoaB o.obj ++ ⟨#[32]⟩ ++ itoaB o.val := by unfold fmtOp; rw [if_neg h]
theorem sp_swap : (⟨#[32]⟩ : ByteArray) ++ ⟨#[115, 119, 97, 112, 32]⟩ = ⟨#[32, 115, 119, 97, 112, 32]⟩ := ba_app [32] [115, 119, 97, 112, 32]
theorem sp_write : (⟨#[32]⟩ : ByteArray) ++ ⟨#[119, 114, 105, 116, 101, 32]⟩ = ⟨#[32, 119, 114, 105, 116, 101, 32]⟩ := ba_app [32] [119, 114, 105, 116, 101, 32]
theorem fmtOp_s2 {o : ROp} (h : o.kind = 2) : fmtOp o = itoaB o.client ++ ⟨#[46]⟩ ++ itoaB o.seq ++ ⟨#[32]⟩ ++ ⟨#[115, 119, 97, 112, 32]⟩ ++ itoaB o.obj ++ ⟨#[32]⟩ ++ itoaB o.old ++ ⟨#[32]⟩ ++ itoaB o.val := by
  rw [fmtOp_2 h, ← sp_swap]; simp only [ba_assoc]
theorem fmtOp_s1 {o : ROp} (h : ¬ o.kind = 2) : fmtOp o = itoaB o.client ++ ⟨#[46]⟩ ++ itoaB o.seq ++ ⟨#[32]⟩ ++ ⟨#[119, 114, 105, 116, 101, 32]⟩ ++ itoaB o.obj ++ ⟨#[32]⟩ ++ itoaB o.val := by
  rw [fmtOp_1 h, ← sp_write]; simp only [ba_assoc]
theorem fmtOp_size (o : ROp) : (fmtOp o).size ≤ 100 := by
  have h1 := itoaB_size o.client; have h2 := itoaB_size o.seq; have h3 := itoaB_size o.obj; have h4 := itoaB_size o.old; have h5 := itoaB_size o.val
  have e1 : ByteArray.size ⟨#[46]⟩ = 1 := rfl
  have e2 : ByteArray.size ⟨#[32]⟩ = 1 := rfl
  have e3 : ByteArray.size ⟨#[32, 115, 119, 97, 112, 32]⟩ = 6 := rfl
  have e4 : ByteArray.size ⟨#[32, 119, 114, 105, 116, 101, 32]⟩ = 7 := rfl
  unfold fmtOp
  split <;> simp only [ByteArray.size_append, e1, e2, e3, e4] <;> omega
theorem fmtE_size (e : LEnt) : (fmtE e).size ≤ 103 := by
  have h1 := itoaB_size e.epoch; have h2 := fmtOp_size e.op
  have e1 : ByteArray.size ⟨#[58]⟩ = 1 := rfl
  unfold fmtE
  simp only [ByteArray.size_append, e1]; omega
theorem logGo_e : ∀ {l : List LEnt} {p : Option Int}, logGo p l = true → ∀ {i : Nat}, i < l.length → 1 ≤ (at' l i).epoch ∧ (at' l i).epoch ≤ 20
  | [], p, _, i, hi => by simp at hi
  | e :: es, p, h, 0, hi => by
    simp only [logGo, Bool.and_eq_true, inR, decide_eq_true_eq] at h
    exact h.1.1.1
  | e :: es, p, h, i + 1, hi => by
    simp only [logGo, Bool.and_eq_true] at h
    exact logGo_e h.2 (i := i) (by simpa using hi)
theorem isLog_at {l : List LEnt} (h : isLog l = true) {i : Nat} (hi : i < l.length) : 1 ≤ (at' l i).epoch ∧ (at' l i).epoch ≤ 20 ∧ validOp (at' l i).op = true := by
  simp only [isLog, Bool.and_eq_true] at h
  have h1 := logGo_e h.1 hi
  exact ⟨h1.1, h1.2, logGo_at h.1 hi⟩
theorem isLog_one {e : LEnt} (h0 : 1 ≤ e.epoch) (h1 : e.epoch ≤ 20) (h2 : validOp e.op = true) : isLog [e] = true := by
  simp [isLog, logGo, inR, h0, h1, h2]
theorem one_take {l : List LEnt} {i : Nat} (h : i < l.length) : (l.drop i).take 1 = [at' l i] := by
  rw [drop_at h]; rfl
/-! the list of the sums -/
def digTo (l : List LEnt) : Nat → Int
  | 0 => 11
  | i + 1 => (31 * digTo l i + chk (fmtE (at' l i))).tmod 9973
theorem digTo_b (l : List LEnt) : ∀ i, 0 ≤ digTo l i ∧ digTo l i ≤ 9972
  | 0 => by simp [digTo]
  | i + 1 => by
    have h := digTo_b l i
    have h2 := chk_b (fmtE (at' l i))
    simp only [digTo]
    rw [Int.tmod_eq_emod_of_nonneg (by omega)]
    omega
def digUp (l : List LEnt) (n : Nat) : List Int := (List.range (n + 1)).map (digTo l)
def digL (l : List LEnt) : List Int := if isLog l then digUp l l.length else []
theorem digUp_len (l : List LEnt) (n : Nat) : (digUp l n).length = n + 1 := by simp [digUp]
theorem digUp_at {l : List LEnt} {n i : Nat} (h : i ≤ n) : at' (digUp l n) i = digTo l i := by
  have h1 : i < (List.range (n + 1)).length := by simp; omega
  simp [digUp, at', List.getD_eq_getElem?_getD, List.getElem?_map, List.getElem?_range, show i < n + 1 by omega]
theorem digUp_next (l : List LEnt) (n : Nat) : digUp l n ++ [digTo l (n + 1)] = digUp l (n + 1) := by
  unfold digUp
  rw [List.range_succ (n := n + 1), List.map_append]; rfl
theorem digL_y {l : List LEnt} (h : isLog l = true) : digL l = digUp l l.length := by unfold digL; rw [if_pos h]
theorem digL_n {l : List LEnt} (h : isLog l = false) : digL l = [] := by unfold digL; rw [if_neg (by simp [h])]
theorem digL_len (l : List LEnt) : (digL l).length ≤ 17 := by
  unfold digL
  split
  · rename_i h
    rw [digUp_len]
    have := isLog_len h
    omega
  · simp
theorem digTo_in (l : List LEnt) (i : Nat) : in64 (31 * digTo l i) ∧ in64 (digTo l i * 31) ∧ in64 (31 * digTo l i + chk (fmtE (at' l i))) ∧ in64 (digTo l i * 31 + chk (fmtE (at' l i))) := by
  have h := digTo_b l i
  have h2 := chk_b (fmtE (at' l i))
  unfold in64
  omega
def digOf (l : List LEnt) (n : Int) : Int := if 0 ≤ n ∧ n ≤ ((digL l).length : Int) - 1 then at' (digL l) n.toNat else -1
theorem digOf_y {l : List LEnt} {n : Int} (h : inR n 0 ((digL l).length - 1) = true) : digOf l n = at' (digL l) n.toNat := by
  have := inR_of h
  unfold digOf; rw [if_pos this]
theorem digOf_n {l : List LEnt} {n : Int} (h : inR n 0 ((digL l).length - 1) = false) : digOf l n = -1 := by
  have := inR_no h
  unfold digOf; rw [if_neg (by omega)]
def learnedD (s : Srv) : Int := digOf s.learned s.learned.length
theorem fl_at {l : List LEnt} {out : List ByteArray} {i : Nat} (hl : l.length = 1) (ho : out = (l.take i).map fmtE) (hi : 1 ≤ i) : at' out 0 = fmtE (at' l 0) := by
  subst ho
  obtain ⟨e, rfl⟩ : ∃ e, l = [e] := by
    match l, hl with
    | [e], _ => exact ⟨e, rfl⟩
  obtain ⟨k, rfl⟩ : ∃ k, i = k + 1 := ⟨i - 1, by omega⟩
  rfl
theorem fl_len {l : List LEnt} {out : List ByteArray} {i : Nat} (hl : l.length = 1) (ho : out = (l.take i).map fmtE) (hi : 1 ≤ i) : out.length = 1 := by
  subst ho; simp; omega
theorem fl_step {l : List LEnt} {out : List ByteArray} {i : Nat} (ho : out = (l.take i).map fmtE) (hi : i < l.length) : out ++ [fmtE (at' l i)] = (l.take (i + 1)).map fmtE := by
  subst ho
  have : l.take (i + 1) = l.take i ++ [at' l i] := by
    rw [List.take_succ_eq_append_getElem hi]
    congr 2
    simp [at', List.getD_eq_getElem?_getD, List.getElem?_eq_getElem hi]
  rw [this, List.map_append]; rfl
def flS (l : List LEnt) (i : Nat) : ByteArray := if i = 0 then ⟨#[]⟩ else fmtE (at' l 0)
theorem flS_next {l : List LEnt} {s : ByteArray} {i : Nat} (hl : l.length = 1) (hi : i < l.length) (hs : s = flS l i) : s ++ itoaB (at' l i).epoch ++ ⟨#[58]⟩ ++ fmtOp (at' l i).op = flS l (i + 1) := by
  obtain rfl : i = 0 := by omega
  have : s = ⟨#[]⟩ := hs
  subst this
  rw [ba_nil]; rfl
theorem flS_size {l : List LEnt} {s : ByteArray} {i : Nat} (hs : s = flS l i) : s.size ≤ 103 := by
  subst hs; unfold flS
  split
  · simp [ByteArray.size]
  · exact fmtE_size _
theorem flS_fin {l : List LEnt} {s : ByteArray} {i : Nat} (hs : s = flS l i) (hi : 1 ≤ i) : s = fmtE (at' l 0) := by
  rw [hs]; unfold flS; rw [if_neg (by omega)]
theorem one_log {l : List LEnt} {i : Nat} (h : isLog l = true) (hi : i < l.length) : isLog ((l.drop i).take 1) = true := by
  rw [one_take hi]
  obtain ⟨h1, h2, h3⟩ := isLog_at h hi
  exact isLog_one h1 h2 h3
theorem one_at {l : List LEnt} {i : Nat} (hi : i < l.length) : at' ((l.drop i).take 1) 0 = at' l i := by rw [one_take hi]; rfl
theorem dig_step {l : List LEnt} {out : List Int} {i : Nat} (ho : out = digUp l i) (hi : i < l.length) : out ++ [(31 * at' out i + chk (fmtE (at' l i))).tmod 9973] = digUp l (i + 1) := by
  subst ho
  rw [digUp_at (Nat.le_refl _)]
  exact digUp_next l i
theorem dig_stepD {l : List LEnt} {out : List Int} {d : Int} {i : Nat} (ho : out = digUp l i) (hd : d = digTo l i) : out ++ [(31 * d + chk (fmtE (at' l i))).tmod 9973] = digUp l (i + 1) := by
  subst ho; subst hd
  exact digUp_next l i
theorem dig_in {l : List LEnt} {out : List Int} {i : Nat} (ho : out = digUp l i) : in64 (31 * at' out i) ∧ in64 (31 * at' out i + chk (fmtE (at' l i))) := by
  subst ho
  rw [digUp_at (Nat.le_refl _)]
  have := digTo_in l i
  exact ⟨this.1, this.2.2.1⟩
theorem dig_b {l : List LEnt} {out : List Int} {i : Nat} (ho : out = digUp l i) : 0 ≤ at' out i ∧ at' out i ≤ 9972 := by
  subst ho
  rw [digUp_at (Nat.le_refl _)]
  exact digTo_b l i
end
end Go.Abs

/- More plain facts. No condition. -/
import Derived.Test.YtijifinpifomcaaPure19
import Derived.Lib.ItoaNum
set_option linter.unusedVariables false
set_option linter.unusedSimpArgs false
set_option linter.unusedVariables false
set_option linter.unusedSimpArgs false
namespace Go.Abs
open Go
section
theorem dd_lo {u : Nat} (h : u < 10) : Go.Lib.decDigits u = [UInt8.ofNat (48 + u)] := by rw [Go.Lib.decDigits, dif_pos h]
theorem dd_hi {u : Nat} (h : ¬ u < 10) : Go.Lib.decDigits u = Go.Lib.decDigits (u / 10) ++ [UInt8.ofNat (48 + u % 10)] := by
  conv => lhs; rw [Go.Lib.decDigits, dif_neg h]
def itoaB (n : Int) : ByteArray := if n < 100 then ⟨(Go.Lib.decDigits n.toNat).toArray⟩ else ⟨#[]⟩
theorem itoaB_nat {n : Nat} (h : n < 100) : itoaB n = ⟨(Go.Lib.decDigits n).toArray⟩ := by
  unfold itoaB; rw [if_pos (by omega)]; rfl
theorem itoaB_size (n : Int) : (itoaB n).size ≤ 2 := by
  unfold itoaB
  split
  · by_cases h : n.toNat < 10
    · rw [dd_lo h]; simp [ByteArray.size]
    · rw [dd_hi h, dd_lo (by omega)]; simp [ByteArray.size]
  · simp [ByteArray.size]
theorem ba_app (a b : List UInt8) : (⟨a.toArray⟩ : ByteArray) ++ ⟨b.toArray⟩ = ⟨(a ++ b).toArray⟩ := by
  apply ByteArray.ext
  simp [ByteArray.data_append]
theorem ba_assoc (a b c : ByteArray) : a ++ b ++ c = a ++ (b ++ c) := by
  apply ByteArray.ext
  simp [ByteArray.data_append]
structure FI (n m : Int) (out : ByteArray) : Prop where
  lo : 0 ≤ m
  hi : m ≤ 99
  z : m = 0 → out = itoaB n
  nz : m ≠ 0 → itoaB m ++ out = itoaB n
theorem digB {m : Nat} (h : m < 10) : itoaB m = ⟨#[UInt8.ofNat (48 + m)]⟩ := by
  rw [itoaB_nat (by omega), dd_lo h]
theorem FI.next {n m : Int} {out : ByteArray} (h : FI n m out) (hm : m ≠ 0) : FI n (m / 10) (⟨#[UInt8.ofNat (48 + m % 10).toNat]⟩ ++ out) := by
  have h0 := h.lo; have h1 := h.hi
  obtain ⟨k, rfl⟩ : ∃ k : Nat, m = k := ⟨m.toNat, by omega⟩
  have hk : k < 100 := by omega
  have e1 : ((k : Int) / 10) = ((k / 10 : Nat) : Int) := by omega
  have e2 : (48 + (k : Int) % 10).toNat = 48 + k % 10 := by omega
  rw [e1, e2]
  have hn := h.nz hm
  refine ⟨by omega, by omega, fun hz => ?_, fun hz => ?_⟩
  · have hk2 : k < 10 := by omega
    rw [← hn, digB hk2, Nat.mod_eq_of_lt hk2]
  · have hk2 : ¬ k < 10 := by omega
    have e3 : itoaB (k : Int) = itoaB ((k / 10 : Nat) : Int) ++ ⟨#[UInt8.ofNat (48 + k % 10)]⟩ := by
      rw [itoaB_nat hk, itoaB_nat (by omega), dd_hi hk2]
      exact (ba_app _ _).symm
    rw [← hn, e3, ba_assoc]
theorem FI.sz {n m : Int} {out : ByteArray} (h : FI n m out) (hm : m ≠ 0) : out.size ≤ 2 := by
  have h1 := congrArg ByteArray.size (h.nz hm)
  rw [ByteArray.size_append] at h1
  have := itoaB_size n
  omega
theorem wrap64_id {n : Int} (h0 : 0 ≤ n) (h1 : n ≤ 1048576) : IntKind.i64.wrap n = n := by
  simp [IntKind.wrap, IntKind.bits]; omega
def chkTo (s : ByteArray) : Nat → Int
  | 0 => 5
  | i + 1 => (257 * chkTo s i + byteAt s i + 1).tmod 9949
def chk (s : ByteArray) : Int := chkTo s s.size
def fmtOp (o : ROp) : ByteArray :=
  if o.kind = 2 then itoaB o.client ++ ⟨#[46]⟩ ++ itoaB o.seq ++ ⟨#[32, 115, 119, 97, 112, 32]⟩ ++ itoaB o.obj ++ ⟨#[32]⟩ ++ itoaB o.old ++ ⟨#[32]⟩ ++ itoaB o.val
  else itoaB o.client ++ ⟨#[46]⟩ ++ itoaB o.seq ++ ⟨#[32, 119, 114, 105, 116, 101, 32]⟩ ++ itoaB o.obj ++ ⟨#[32]⟩ ++ itoaB o.val
def fmtE (e : LEnt) : ByteArray := itoaB e.epoch ++ ⟨#[58]⟩ ++ fmtOp e.op
def digTo (l : List LEnt) : Nat → Int
  | 0 => 11
  | i + 1 => (31 * digTo l i + chk (fmtE (at' l i))).tmod 9973
def digUp (l : List LEnt) (n : Nat) : List Int := (List.range (n + 1)).map (digTo l)
def digL (l : List LEnt) : List Int := if isLog l then digUp l l.length else []
end
end Go.Abs

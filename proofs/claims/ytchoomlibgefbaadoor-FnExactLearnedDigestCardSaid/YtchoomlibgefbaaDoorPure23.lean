/- More plain facts. No condition. -/
import Derived.Test.YtchoomlibgefbaaDoorPure22
set_option linter.unusedVariables false
set_option linter.unusedSimpArgs false
namespace Go.Abs
open Go
noncomputable section
/-! names of codes, texts of replies -/
def codeL : List ByteArray := [⟨#[111, 107]⟩, ⟨#[105, 110, 118, 97, 108, 105, 100]⟩, ⟨#[100, 111, 119, 110]⟩, ⟨#[110, 111, 116, 112, 114, 105, 109, 97, 114, 121]⟩, ⟨#[112, 101, 110, 100, 105, 110, 103]⟩, ⟨#[102, 117, 108, 108]⟩, ⟨#[102, 111, 114, 109, 97, 116]⟩, ⟨#[108, 101, 97, 115, 101]⟩, ⟨#[109, 97, 115, 116, 101, 114, 115]⟩, ⟨#[110, 111, 115, 111, 117, 114, 99, 101]⟩, ⟨#[117, 110, 114, 101, 97, 99, 104, 97, 98, 108, 101]⟩, ⟨#[115, 116, 97, 108, 101]⟩]
def codeN (n : Int) : ByteArray := if inR n 0 11 = true then at' codeL n.toNat else ⟨#[]⟩
theorem codeN_l {n : Int} (h : n < 0) : codeN n = ⟨#[]⟩ := by
  unfold codeN; rw [if_neg]; intro hh; have := inR_of hh; omega
theorem codeN_g {n : Int} (h : 11 < n) : codeN n = ⟨#[]⟩ := by
  unfold codeN; rw [if_neg]; intro hh; have := inR_of hh; omega
def fmtRes (r : Res) : ByteArray := if inR r.val 0 9 = true then (if r.done = true then ⟨#[100, 111, 110, 101, 32]⟩ else ⟨#[107, 101, 112, 116, 32]⟩) ++ itoaB r.val else ⟨#[]⟩
theorem fmtRes_n {r : Res} (h : inR r.val 0 9 = false) : fmtRes r = ⟨#[]⟩ := by unfold fmtRes; rw [if_neg (by simp [h])]
theorem fmtRes_d {r : Res} (h : inR r.val 0 9 = true) (h2 : r.done = true) : fmtRes r = ⟨#[100, 111, 110, 101, 32]⟩ ++ itoaB r.val := by unfold fmtRes; rw [if_pos h, if_pos h2]
theorem fmtRes_k {r : Res} (h : inR r.val 0 9 = true) (h2 : r.done = false) : fmtRes r = ⟨#[107, 101, 112, 116, 32]⟩ ++ itoaB r.val := by unfold fmtRes; rw [if_pos h, if_neg (by simp [h2])]
theorem fmtRes_size (r : Res) : (fmtRes r).size ≤ 7 := by
  have := itoaB_size r.val
  have e1 : ByteArray.size ⟨#[100, 111, 110, 101, 32]⟩ = 5 := rfl
  have e2 : ByteArray.size ⟨#[107, 101, 112, 116, 32]⟩ = 5 := rfl
  have e3 : ByteArray.size ⟨#[]⟩ = 0 := rfl
  unfold fmtRes
  split
  · split <;> rw [ByteArray.size_append] <;> omega
  · omega
def fmtRep (r : Rep) : ByteArray :=
  if r.code = 0 then (if ((fmtRes r.res).toList == (⟨#[]⟩ : ByteArray).toList) = true ∨ inR r.idx 0 16 = false then ⟨#[]⟩ else ⟨#[111, 107, 32]⟩ ++ fmtRes r.res ++ ⟨#[32]⟩ ++ itoaB r.idx) else codeN r.code
theorem fmtRep_c {r : Rep} (h : ¬ r.code = 0) : fmtRep r = codeN r.code := by unfold fmtRep; rw [if_neg h]
theorem fmtRep_1 {r : Rep} (h : r.code = 0) (h2 : (fmtRes r.res).toList = (⟨#[]⟩ : ByteArray).toList) : fmtRep r = ⟨#[]⟩ := by unfold fmtRep; rw [if_pos h, if_pos (.inl (beq_iff_eq.2 h2))]
theorem fmtRep_2 {r : Rep} (h : r.code = 0) (h2 : inR r.idx 0 16 = false) : fmtRep r = ⟨#[]⟩ := by unfold fmtRep; rw [if_pos h, if_pos (.inr h2)]
theorem fmtRep_3 {r : Rep} (h : r.code = 0) (h2 : ¬ (fmtRes r.res).toList = (⟨#[]⟩ : ByteArray).toList) (h3 : inR r.idx 0 16 = true) : fmtRep r = ⟨#[111, 107, 32]⟩ ++ fmtRes r.res ++ ⟨#[32]⟩ ++ itoaB r.idx := by
  unfold fmtRep
  rw [if_pos h, if_neg]
  rintro (q | q)
  · exact h2 (beq_iff_eq.1 q)
  · rw [h3] at q; cases q
end
end Go.Abs

/- More plain facts. No condition. -/
import Derived.Test.YtchoomlibgefbaaPure22
set_option linter.unusedVariables false
set_option linter.unusedSimpArgs false
namespace Go.Abs
open Go
noncomputable section
/-! names of codes, texts of replies -/
def codeL : List ByteArray := [⟨#[111, 107]⟩, ⟨#[105, 110, 118, 97, 108, 105, 100]⟩, ⟨#[100, 111, 119, 110]⟩, ⟨#[110, 111, 116, 112, 114, 105, 109, 97, 114, 121]⟩, ⟨#[112, 101, 110, 100, 105, 110, 103]⟩, ⟨#[102, 117, 108, 108]⟩, ⟨#[102, 111, 114, 109, 97, 116]⟩, ⟨#[108, 101, 97, 115, 101]⟩, ⟨#[109, 97, 115, 116, 101, 114, 115]⟩, ⟨#[110, 111, 115, 111, 117, 114, 99, 101]⟩, ⟨#[117, 110, 114, 101, 97, 99, 104, 97, 98, 108, 101]⟩, ⟨#[115, 116, 97, 108, 101]⟩]
def codeN (n : Int) : ByteArray := if inR n 0 11 = true then at' codeL n.toNat else ⟨#[]⟩
theorem codeN_l {n : Int} (h : n < 0) : codeN n = ⟨#[]⟩ := by
  unfold codeN; rw [if_neg]; intro hh; have := inR_of hh; omega
theorem codeN_g {n : Int} (h : 11 < n) : codeN n = ⟨#[]⟩ := by
  unfold codeN; rw [if_neg]; intro hh; have := inR_of hh; omega
end
end Go.Abs

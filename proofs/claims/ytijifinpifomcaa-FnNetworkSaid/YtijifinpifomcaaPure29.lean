/- More plain facts. No condition. -/
import Derived.Test.YtijifinpifomcaaPure28
set_option linter.unusedVariables false
set_option linter.unusedSimpArgs false
set_option linter.unusedVariables false
namespace Go.Abs
open Go
theorem fit_u8 {t : T} (h : E.Fit (.i .u8) t) : ∃ n : Int, t = .v (.int .u8 n) := by cases h with | i _ n _ => exact ⟨n, rfl⟩
theorem fit_lB {t : T} (h : E.Fit (.sl [.i .u8]) t) : ∃ l : List Int, t = .s false 1 (l.map eByt) ∧ l.length ≤ maxLen := by
  cases h with
  | sl _ es h hl =>
    obtain ⟨l, rfl⟩ := E.FitEs.map (enc := eByt) (fun e he => by
      cases he with | cons _ _ t ts h1 h2 =>
      cases h2
      obtain ⟨n, rfl⟩ := fit_u8 h1
      exact ⟨n, rfl⟩) h
    exact ⟨l, rfl, by simpa using hl⟩
theorem bytes_in {W : World} {v : Value} {l : List Int} (h : E.AIn W (.c (.s false 1 (l.map eByt))) v) : ∃ a cap, v = .slice a l.length cap ∧ Bor W noX v 1 (l.map eByt) := by
  cases h with
  | s y sz es h =>
    have hh := h
    generalize hE : l.map eByt = es at h hh
    cases h with
    | mk a cap sz es b o g hl hsz ha hc ht => exact ⟨a, cap, by rw [← hE, List.length_map], hh⟩
noncomputable abbrev byteAmb (v : Value) (l : List Int) : Amb := lentAmb v 1 (l.map eByt) (by decide) (sz_eByt l)
theorem byteAmb_view {a : Option Addr} {cap : Nat} {l : List Int} : (byteAmb (.slice a l.length cap) l).view (.slice a l.length cap) = some (1, l.map eByt) := lentAmb_view
theorem byteAmb_ok {W : World} {v : Value} {l : List Int} (h : Bor W noX v 1 (l.map eByt)) : (byteAmb v l).ok W noX := h
end Go.Abs

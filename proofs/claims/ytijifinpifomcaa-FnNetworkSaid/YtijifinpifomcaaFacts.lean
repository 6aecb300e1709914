/- Facts about the program's types. No condition. -/
import Derived.Test.YtijifinpifomcaaPlain
import Derived.KernelRfl
import Derived.Test.YtijifinpifomcaaProg
set_option linter.unusedVariables false
set_option linter.unusedSimpArgs false
set_option linter.unnecessarySimpa false
set_option linter.constructorNameAsVariable false
set_option linter.unusedSectionVars false
set_option maxRecDepth 100000
namespace Go.Abs
open Go
theorem sz3 : szOf Go.Proofs.Try.prog 3 = some 1 := by kernel_rfl
theorem ki3 : kinds Go.Proofs.Try.prog 12 3 = some [none] := by kernel_rfl
theorem ze3 : zeroOf Go.Proofs.Try.prog 3 = some [.v (vi 0)] := by kernel_rfl
theorem by3 : bytesOf Go.Proofs.Try.prog 3 = some 8 := by kernel_rfl
theorem ag3 : aggOf Go.Proofs.Try.prog 3 = some false := by kernel_rfl
theorem sz4 : szOf Go.Proofs.Try.prog 4 = some 1 := by kernel_rfl
theorem ki4 : kinds Go.Proofs.Try.prog 12 4 = some [none] := by kernel_rfl
theorem ze4 : zeroOf Go.Proofs.Try.prog 4 = some [.v (.bool false)] := by kernel_rfl
theorem by4 : bytesOf Go.Proofs.Try.prog 4 = some 1 := by kernel_rfl
theorem ag4 : aggOf Go.Proofs.Try.prog 4 = some false := by kernel_rfl
theorem un4 : Go.Proofs.Try.prog.underlying 4 = some .bool := by kernel_rfl
theorem sz24 : szOf Go.Proofs.Try.prog 24 = some 1 := by kernel_rfl
theorem ki24 : kinds Go.Proofs.Try.prog 12 24 = some [some 1] := by kernel_rfl
theorem ze24 : zeroOf Go.Proofs.Try.prog 24 = some [.s true 1 []] := by kernel_rfl
theorem by24 : bytesOf Go.Proofs.Try.prog 24 = some 24 := by kernel_rfl
theorem ag24 : aggOf Go.Proofs.Try.prog 24 = some false := by kernel_rfl
theorem el24 : elemOf Go.Proofs.Try.prog 24 = some 3 := by kernel_rfl
theorem un24 : Go.Proofs.Try.prog.underlying 24 = some (.slice 3) := by kernel_rfl
theorem un47 : Go.Proofs.Try.prog.underlying 47 = some (.int .u64) := by kernel_rfl
theorem ki47 : kinds Go.Proofs.Try.prog 12 47 = some [none] := by kernel_rfl
theorem un3 : Go.Proofs.Try.prog.underlying 3 = some (.int .i64) := by kernel_rfl
theorem el3n : elemOf Go.Proofs.Try.prog 3 = none := by kernel_rfl
theorem un9 : Go.Proofs.Try.prog.underlying 9 = some .string := by kernel_rfl
theorem eln9 : elemOf Go.Proofs.Try.prog 9 = none := by kernel_rfl
theorem un5 : Go.Proofs.Try.prog.underlying 5 = some (.int .u8) := by kernel_rfl
theorem un22 : Go.Proofs.Try.prog.underlying 22 = some (.slice 5) := by kernel_rfl
theorem el22 : elemOf Go.Proofs.Try.prog 22 = some 5 := by kernel_rfl
theorem ki5 : kinds Go.Proofs.Try.prog 12 5 = some [none] := by kernel_rfl
theorem sz5 : szOf Go.Proofs.Try.prog 5 = some 1 := by kernel_rfl
theorem ze5 : zeroOf Go.Proofs.Try.prog 5 = some [.v (.int .u8 0)] := by kernel_rfl
theorem ki9 : kinds Go.Proofs.Try.prog 12 9 = some [none] := by kernel_rfl
theorem sz9 : szOf Go.Proofs.Try.prog 9 = some 1 := by kernel_rfl
theorem ze9 : zeroOf Go.Proofs.Try.prog 9 = some [.v (.string ⟨#[]⟩)] := by kernel_rfl
theorem by9 : bytesOf Go.Proofs.Try.prog 9 = some 16 := by kernel_rfl
theorem ag9 : aggOf Go.Proofs.Try.prog 9 = some false := by kernel_rfl
theorem sz44 : szOf Go.Proofs.Try.prog 44 = some 3 := by kernel_rfl
theorem ki44 : kinds Go.Proofs.Try.prog 12 44 = some [some 1, none, none] := by kernel_rfl
theorem ze44 : zeroOf Go.Proofs.Try.prog 44 = some [.s true 1 [], .v (vi 0), .v (vi 0)] := by kernel_rfl
theorem by44 : bytesOf Go.Proofs.Try.prog 44 = some 40 := by kernel_rfl
theorem ag44 : aggOf Go.Proofs.Try.prog 44 = some true := by kernel_rfl
theorem is44 : isStruct Go.Proofs.Try.prog 44 = true := by kernel_rfl
theorem fo44_0 : fieldOf Go.Proofs.Try.prog 44 0 = some (0, 1, false) := by kernel_rfl
theorem fo44_1 : fieldOf Go.Proofs.Try.prog 44 1 = some (1, 1, false) := by kernel_rfl
theorem fo44_2 : fieldOf Go.Proofs.Try.prog 44 2 = some (2, 1, false) := by kernel_rfl
theorem ki22 : kinds Go.Proofs.Try.prog 12 22 = some [some 1] := by kernel_rfl
theorem sz22 : szOf Go.Proofs.Try.prog 22 = some 1 := by kernel_rfl
theorem by22 : bytesOf Go.Proofs.Try.prog 22 = some 24 := by kernel_rfl
theorem ag22 : aggOf Go.Proofs.Try.prog 22 = some false := by kernel_rfl
theorem by5 : bytesOf Go.Proofs.Try.prog 5 = some 1 := by kernel_rfl
theorem ag5 : aggOf Go.Proofs.Try.prog 5 = some false := by kernel_rfl
attribute [go_sem] sz3 ki3 ze3 by3 ag3 sz4 ki4 ze4 by4 ag4 un4 sz24 ki24 ze24 by24 ag24 el24 un24 un47 ki47 un3 el3n un9 eln9 un5 un22 el22 ki5 sz5 ze5 ki9 sz9 ze9 by9 ag9 sz44 ki44 ze44 by44 ag44 is44 fo44_0 fo44_1 fo44_2 ki22 sz22 by22 ag22 by5 ag5
end Go.Abs
namespace Go.Abs
theorem HFS : (∀ (p : Prop) [Decidable p], (decide p = true) = p) ∧ (∀ (p : Prop) [Decidable p], (decide p = false) = ¬ p) ∧ (∀ b : Bool, ((!b) = true) = (b = false)) ∧ (∀ b : Bool, ((!b) = false) = (b = true)) ∧ (∀ b : Bool, (¬ (b = true)) = (b = false)) ∧ (∀ b : Bool, (¬ (b = false)) = (b = true)) ∧
    (∀ (α : Type) [BEq α] [LawfulBEq α] (a b : α), ((a == b) = true) = (a = b)) ∧ (∀ (α : Type) [BEq α] [LawfulBEq α] (a b : α), ((a == b) = false) = (a ≠ b)) ∧ (∀ (α : Type) [BEq α] [LawfulBEq α] (a b : α), ((a != b) = true) = (a ≠ b)) ∧ (∀ (α : Type) [BEq α] [LawfulBEq α] (a b : α), ((a != b) = false) = (a = b)) ∧
    (∀ a b : Int, (¬ a < b) = (b ≤ a)) ∧ (∀ a b : Int, (¬ a ≤ b) = (b < a)) ∧ (∀ (α : Type) (a b : α), (a ≠ b) = ¬ (a = b)) :=
  ⟨fun _ _ => decide_eq_true_eq, fun _ _ => propext decide_eq_false_iff_not, fun _ => Bool.not_eq_true' _, fun _ => Bool.not_eq_false' _, fun _ => Bool.not_eq_true _, fun _ => Bool.not_eq_false _, fun _ _ _ _ _ => propext beq_iff_eq, fun _ _ _ _ _ => propext beq_eq_false_iff_ne, fun _ _ _ _ _ => propext bne_iff_ne, fun _ _ _ _ _ => propext bne_eq_false_iff_eq, fun _ _ => propext Int.not_lt, fun _ _ => propext Int.not_le, fun _ _ _ => rfl⟩
theorem IJS : (∀ (α : Type) (a b : α) (l m : List α), (a :: l = b :: m) = (a = b ∧ l = m)) ∧ (∀ a b, (A.c a = A.c b) = (a = b)) ∧ (∀ a b, (A.a a = A.a b) = (a = b)) ∧ (∀ x y, (T.v x = T.v y) = (x = y)) ∧ (∀ a b c a' b' c', (T.s a b c = T.s a' b' c') = (a = a' ∧ b = b' ∧ c = c')) ∧ (∀ a b, (Value.bool a = Value.bool b) = (a = b)) ∧ (∀ k m k' m', (Value.int k m = Value.int k' m') = (k = k' ∧ m = m')) ∧ (∀ p : Prop, (p ∧ True) = p) ∧ (∀ p : Prop, (True ∧ p) = p) := by
  refine ⟨?_, ?_, ?_, ?_, ?_, ?_, ?_, ?_, ?_⟩ <;> intros <;> simp
end Go.Abs

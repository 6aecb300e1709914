/- Facts about the program's types. No condition. -/
import Derived.Test.YtchoomlibgefbaaPlain
import Derived.KernelRfl
import Derived.Test.YtchoomlibgefbaaProg
set_option linter.unusedVariables false
set_option linter.unusedSimpArgs false
set_option linter.unnecessarySimpa false
set_option linter.constructorNameAsVariable false
set_option maxRecDepth 100000
namespace Go.Abs
open Go
theorem sz3 : szOf Go.Proofs.Try.prog 3 = some 1 := by kernel_rfl
theorem ki3 : kinds Go.Proofs.Try.prog 12 3 = some [none] := by kernel_rfl
theorem ze3 : zeroOf Go.Proofs.Try.prog 3 = some [.v (vi 0)] := by kernel_rfl
theorem by3 : bytesOf Go.Proofs.Try.prog 3 = some 8 := by kernel_rfl
theorem ag3 : aggOf Go.Proofs.Try.prog 3 = some false := by kernel_rfl
theorem sz4 : szOf Go.Proofs.Try.prog 4 = some 1 := by kernel_rfl
theorem ki4 : kinds Go.Proofs.Try.prog 12 4 = some [none] := by kernel_rfl
theorem ze4 : zeroOf Go.Proofs.Try.prog 4 = some [.v (.bool false)] := by kernel_rfl
theorem by4 : bytesOf Go.Proofs.Try.prog 4 = some 1 := by kernel_rfl
theorem ag4 : aggOf Go.Proofs.Try.prog 4 = some false := by kernel_rfl
theorem un4 : Go.Proofs.Try.prog.underlying 4 = some .bool := by kernel_rfl
theorem un3 : Go.Proofs.Try.prog.underlying 3 = some (.int .i64) := by kernel_rfl
theorem el3n : elemOf Go.Proofs.Try.prog 3 = none := by kernel_rfl
theorem un9 : Go.Proofs.Try.prog.underlying 9 = some .string := by kernel_rfl
theorem eln9 : elemOf Go.Proofs.Try.prog 9 = none := by kernel_rfl
theorem un5 : Go.Proofs.Try.prog.underlying 5 = some (.int .u8) := by kernel_rfl
theorem ki5 : kinds Go.Proofs.Try.prog 12 5 = some [none] := by kernel_rfl
theorem sz5 : szOf Go.Proofs.Try.prog 5 = some 1 := by kernel_rfl
theorem ze5 : zeroOf Go.Proofs.Try.prog 5 = some [.v (.int .u8 0)] := by kernel_rfl
theorem ki9 : kinds Go.Proofs.Try.prog 12 9 = some [none] := by kernel_rfl
theorem sz9 : szOf Go.Proofs.Try.prog 9 = some 1 := by kernel_rfl
theorem ze9 : zeroOf Go.Proofs.Try.prog 9 = some [.v (.string ⟨#[]⟩)] := by kernel_rfl
theorem by9 : bytesOf Go.Proofs.Try.prog 9 = some 16 := by kernel_rfl
theorem ag9 : aggOf Go.Proofs.Try.prog 9 = some false := by kernel_rfl
theorem el25 : elemOf Go.Proofs.Try.prog 25 = some 9 := by kernel_rfl
theorem by25 : bytesOf Go.Proofs.Try.prog 25 = some 24 := by kernel_rfl
attribute [go_sem] sz3 ki3 ze3 by3 ag3 sz4 ki4 ze4 by4 ag4 un4 un3 el3n un9 eln9 un5 ki5 sz5 ze5 ki9 sz9 ze9 by9 ag9 el25 by25
end Go.Abs

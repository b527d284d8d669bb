/- A struct that comes in as an argument, as a value. -/
import Derived.Test.YtdmbbocjaagfkaaOp
import Derived.WideShapes
namespace Go.Proofs.Ytdmbbocjaagfkaa.Z
open Go.RowKit Go.Proofs.YtdmbbocjaagfkaaW.PrintWords Go.WideShapes
set_option linter.unusedVariables false

theorem vEn_of {W w : World} {r : Reach} {base : Nat} {v : Value} {x : En} (h : Value.okWide Try.prog W r base 48 v) (hK : kEn.K w x v.cells.toList) : v = vEn x := by
  obtain ⟨cs, rfl, _⟩ := okWide_struct Try.underlying48 h
  have h2 : cs.toList = [.int .i64 x.addr, .int .i64 x.port] := by simpa [Value.cells] using kEn_open hK
  have h3 : cs = #[.int .i64 x.addr, .int .i64 x.port] := by apply Array.ext'; simpa using h2
  rw [h3]
end Go.Proofs.Ytdmbbocjaagfkaa.Z

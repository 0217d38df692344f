/- Closed facts on the program's types: []byte is 24, byte is 5, string is 9. -/
import Derived.Test.YtehbahobkgoapaaBy
import Derived.Test.YtehbahobkgoapaaProg
import Derived.KernelRfl
namespace Go.Proofs.Ytehbahobkgoapaa
open Go Go.RowKit
theorem bt : BT Try.prog 24 5 9 := ⟨Try.underlying24, Try.underlying5, Try.underlying9, by kernel_rfl⟩
end Go.Proofs.Ytehbahobkgoapaa

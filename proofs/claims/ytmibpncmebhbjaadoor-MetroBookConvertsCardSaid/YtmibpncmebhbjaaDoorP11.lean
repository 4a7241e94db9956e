/- Closed facts on the program that every card asks. -/
import Derived.Test.YtmibpncmebhbjaaDoorRows
import Derived.SevenTiedAt
namespace Go.Proofs.YtmibpncmebhbjaaDoor
section
open Go

theorem main_is : Tryd.prog.mainIs = some (true, "39000107c98541ae85f89aa5d43c018fa150e1a34d3d32bffef3cfc6aba633ae".toList) := by kernel_rfl
theorem no_looks : false = Tryd.prog.looks [] := by kernel_rfl
end
end Go.Proofs.YtmibpncmebhbjaaDoor

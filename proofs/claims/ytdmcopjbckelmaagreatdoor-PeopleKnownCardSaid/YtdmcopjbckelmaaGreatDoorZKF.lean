/- Closed facts of the whole program that every row's builder asks. No condition. -/
import Derived.Test.YtdmcopjbckelmaaGreatDoorRows
import Derived.JoinedOf
namespace Go.Proofs.YtdmcopjbckelmaaGreatDoor
open Go

theorem people_j1 : laidOutB Tryz.prog = true := by kernel_rfl
theorem people_j2 : mapsRowed Tryz.prog = true := by kernel_rfl
theorem people_j6 : (Tryz.prog.stops == []) = true := by kernel_rfl
theorem people_j8 : (Tryz.prog.stopKnobs == []) = true := by kernel_rfl
theorem people_j24 : Tryz.prog.stopsHeard = true := by kernel_rfl
theorem people_j25 : Tryz.prog.mayEnter = true := by kernel_rfl
end Go.Proofs.YtdmcopjbckelmaaGreatDoor

/- Closed facts of the whole program that every row's builder asks. No condition. -/
import Derived.Test.YtdmcopjbckelmaaDoorRows
import Derived.JoinedOf
namespace Go.Proofs.YtdmcopjbckelmaaDoor
open Go

theorem people_j1 : laidOutB Tryd.prog = true := by kernel_rfl
theorem people_j2 : mapsRowed Tryd.prog = true := by kernel_rfl
theorem people_j6 : (Tryd.prog.stops == []) = true := by kernel_rfl
theorem people_j8 : (Tryd.prog.stopKnobs == []) = true := by kernel_rfl
theorem people_j24 : Tryd.prog.stopsHeard = true := by kernel_rfl
theorem people_j25 : Tryd.prog.mayEnter = true := by kernel_rfl
end Go.Proofs.YtdmcopjbckelmaaDoor

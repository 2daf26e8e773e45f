/- The law: its first calls. -/
import Derived.Test.YtjilbkckdnmbnaaGreatDoorM0
set_option linter.all false
namespace Go.Proofs.YtjilbkckdnmbnaaGreatDoor
open Go Go.Ev Go.RowKit
theorem m0 : piece Tryz.prog gl O0 cl Tryz.f3.ntmps 1000000 11 nc [2, 3, 4, 5, 7, 8, 9, 10, 11, 12, 13, 14, 15, 16, 17, 18] [0, 1, 2, 9] ⟨⟨.leaf, H0⟩, []⟩ = some nS1 := by kernel_rfl
theorem m1 : anew Tryz.f3.ntmps 10 gP [2, 3, 4, 5, 7, 8, 9, 10, 11, 12, 13, 14, 15, 16, 17, 18] nS1 = some nX1 := by kernel_rfl
theorem mE : tailsC 11 nc = .seq nR11 (.seq nR12 nR13) := by kernel_rfl
end Go.Proofs.YtjilbkckdnmbnaaGreatDoor

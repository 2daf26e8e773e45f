/- The last piece of the closed run, by the kernel. -/
import Derived.Test.YtjilbkckdnmbnaaGreatDoorAw
import Derived.Test.YtjilbkckdnmbnaaGreatDoorS5
set_option linter.all false
namespace Go.Proofs.YtjilbkckdnmbnaaGreatDoor
open Go Go.Ev
theorem p5 : lastPiece Tryz.prog gl O0 cl 1000000 Tryz.f12 (tailsC 10 awc) s5 = some (.bool true) := by kernel_rfl
end Go.Proofs.YtjilbkckdnmbnaaGreatDoor

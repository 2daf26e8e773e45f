/- Piece 0 of the closed run, by the kernel. -/
import Derived.Test.YtjilbkckdnmbnaaGreatDoorAw
import Derived.Test.YtjilbkckdnmbnaaGreatDoorS1
set_option linter.all false
namespace Go.Proofs.YtjilbkckdnmbnaaGreatDoor
open Go Go.Ev
theorem p0 : piece Tryz.prog gl O0 cl 125 1000000 2 (tailsC 0 awc) [0, 1] [0, 1, 2, 9, 181, 212, 215, 217, 221, 234, 238, 241, 248, 249, 302] s0 = some s1 := by kernel_rfl
end Go.Proofs.YtjilbkckdnmbnaaGreatDoor

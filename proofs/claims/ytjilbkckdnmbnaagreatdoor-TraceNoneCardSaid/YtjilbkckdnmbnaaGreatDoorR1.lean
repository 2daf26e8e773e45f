/- Piece 1 of the closed run, by the kernel. -/
import Derived.Test.YtjilbkckdnmbnaaGreatDoorAw
import Derived.Test.YtjilbkckdnmbnaaGreatDoorS1
import Derived.Test.YtjilbkckdnmbnaaGreatDoorS2
set_option linter.all false
namespace Go.Proofs.YtjilbkckdnmbnaaGreatDoor
open Go Go.Ev
theorem p1 : piece Tryz.prog gl O0 cl 125 1000000 1 (tailsC 2 awc) [0, 1, 2, 3] [0, 1, 2, 9, 181, 212, 215, 217, 221, 234, 238, 241, 248, 249, 302, 659] s1 = some s2 := by kernel_rfl
end Go.Proofs.YtjilbkckdnmbnaaGreatDoor

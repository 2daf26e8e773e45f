/- Piece 4 of the closed run, by the kernel. -/
import Derived.Test.YtjilbkckdnmbnaaGreatDoorAw
import Derived.Test.YtjilbkckdnmbnaaGreatDoorS4
import Derived.Test.YtjilbkckdnmbnaaGreatDoorS5
set_option linter.all false
namespace Go.Proofs.YtjilbkckdnmbnaaGreatDoor
open Go Go.Ev
theorem p4 : piece Tryz.prog gl O0 cl 125 1000000 3 (tailsC 7 awc) [0, 2, 3, 4, 5, 6, 9, 10, 11, 12] [0, 1, 2, 9, 659] s4 = some s5 := by kernel_rfl
end Go.Proofs.YtjilbkckdnmbnaaGreatDoor

/- Up to the rounds. -/
import Derived.Test.YtjilbkckdnmbnaaGreatDoorN0
set_option linter.all false
namespace Go.Proofs.YtjilbkckdnmbnaaGreatDoor
open Go Go.Ev Go.RowKit
theorem n7 : piece Tryz.prog gl O0 cl Tryz.f4.ntmps 1000000 7 rc [6, 10, 15] [0, 1, 2, 9, 401, 402, 407, 410, 412, 415, 417, 419, 423, 427, 431, 433, 435, 436, 442, 443, 529, 530, 532, 545, 546, 548] rec0 = some rec7 := by kernel_rfl
end Go.Proofs.YtjilbkckdnmbnaaGreatDoor

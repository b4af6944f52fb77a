/- A part of this claim: what its theorem leans on. -/
import Derived.Test.YtekpofpgkokoiaaDoorZRow
import Derived.Test.YtekpofpgkokoiaaDoorCards
import Derived.SevenTiedAt
namespace Go.Proofs.YtekpofpgkokoiaaDoor.M
open Go
set_option maxRecDepth 100000
theorem p_lifted : (Rows.amqprimCodesRow.lifted == Tryd.pinned.checked.prog.liftsFinal) = true := by kernel_rfl
theorem p_make : (Tryd.pinned.checked.prog.make == some Rows.amqprimCodesRow.make) = true := by kernel_rfl
theorem p_mayEnter : Tryd.pinned.checked.prog.mayEnter = true := by kernel_rfl
theorem p_mainIs : Tryd.pinned.checked.prog.mainIs = some (Rows.amqprimCodesCard.stood.harness.1, Rows.amqprimCodesCard.stood.harness.2.toList) := by kernel_rfl
theorem p_looks : false = Tryd.pinned.checked.prog.looks [] := by kernel_rfl
end Go.Proofs.YtekpofpgkokoiaaDoor.M

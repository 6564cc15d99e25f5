/- a certificate's law by that interpreter (part 18): what the program's functions answer, or plain laws of it; no conditions. -/
import Derived.Test.YtgiobgojobegfaaGreatDoorB04
set_option linter.all false
namespace Go.Mini
open Go Go.Proofs.YtgiobgojobegfaaGreatDoor
set_option maxRecDepth 100000
set_option maxHeartbeats 40000000
theorem wA:Call Q 9 []=some (.bool true):=Call_iff.2 ⟨20000,by kernel_rfl⟩
end Go.Mini

/- Rounds 20 and on of lives, evaluated by the kernel. No condition. -/
import Derived.Test.YthdoelcgdgcncaaGreatDoorLives
set_option maxRecDepth 1000000
namespace Go.Proofs.YthdoelcgdgcncaaGreatDoor
open Go Go.Can
theorem r4 : loopSeg (runCode (β := St) livesB tab0 (callN tab0 29) fi6) (kT [0, 1, 17]) (kT [0, 1, 5, 3221, 69, 61, 2381, 65, 2, 6, 70, 2054, 74, 714, 62, 418, 66, 82, 3, 7, 2171, 63, 67, 4, 8, 3224, 72, 60, 64, 80, 1956]) 5 t4 [] h4 2574 = .ok (.normal, t5, [], h5, 3225) := by kernel_rfl
theorem r5 : loopSeg (runCode (β := St) livesB tab0 (callN tab0 29) fi6) (kT [0, 1, 17]) (kT [0, 1, 5, 69, 3785, 61, 2381, 65, 4609, 2, 6, 70, 2054, 3482, 74, 714, 62, 4606, 4514, 66, 82, 3, 7, 2171, 63, 67, 4, 8, 72, 60, 64, 80, 1956]) 5 t5 [] h5 3225 = .ok (.normal, t6, [], h6, 4610) := by kernel_rfl
theorem r6 : loopSeg (runCode (β := St) livesB tab0 (callN tab0 29) fi6) (kT [0, 1, 17]) (kT [0, 1, 5, 69, 61, 2381, 65, 2, 6, 70, 2054, 3482, 74, 714, 62, 4514, 66, 82, 4754, 3, 7, 2171, 63, 67, 4, 8, 72, 60, 64, 4880, 1956]) 5 t6 [] h6 4610 = .ok (.normal, t7, [], h7, 4899) := by kernel_rfl
theorem r7 : loopSeg (runCode (β := St) livesB tab0 (callN tab0 29) fi6) (kT [0, 1, 17]) (kT [0, 1, 5, 69, 61, 2381, 65, 2, 6, 5110, 70, 2054, 3482, 74, 714, 62, 4514, 66, 82, 4754, 3, 7, 2171, 63, 67, 4, 8, 72, 60, 64, 1956]) 5 t7 [] h7 4899 = .ok (.normal, t8, [], h8, 5129) := by kernel_rfl
end Go.Proofs.YthdoelcgdgcncaaGreatDoor

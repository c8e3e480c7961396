/- Rounds 0 and on of lives, evaluated by the kernel. No condition. -/
import Derived.Test.YthdoelcgdgcncaaGreatDoorLives
set_option maxRecDepth 1000000
namespace Go.Proofs.YthdoelcgdgcncaaGreatDoor
open Go Go.Can
noncomputable def hG : T Blk := keepT (kT [0, 1, 2, 3, 4, 5, 6, 7, 8]) heap0
noncomputable def tA : T CV := N (S (.bool .false)) Z Z Z Z
noncomputable def tB : T CV := N (S (.bool .false)) (N (S (.ptr 82 0)) Z Z Z Z) (N (S (.int .i64 0)) Z Z Z Z) Z Z
noncomputable def tC : T CV := N (S (.bool .false)) (N (S (.ptr 82 0)) Z Z Z Z) Z Z Z
theorem q0 : runCode (β := St) (seqL lives0) tab0 (callN tab0 29) fi6 .nil [] heap0 9 (cutK (kT [0]) (kT [0, 1, 2, 3, 4, 5, 6, 7, 8])) = .ok (.normal, tA, [], hG, 9) := by kernel_rfl
theorem q1 : runCode (β := St) (seqL lives1) tab0 (callN tab0 29) fi6 tA [] hG 9 (cutK (kT [0, 1, 2]) (kT [0, 1, 5, 69, 61, 65, 2, 6, 70, 74, 62, 66, 82, 3, 7, 63, 67, 4, 8, 72, 60, 64, 80])) = .ok (.normal, tB, [], h0, 83) := by kernel_rfl
theorem q2 : runCode (β := St) (seqL lives2) tab0 (callN tab0 29) fi6 tB [] h0 83 (cutK (kT [0, 1]) (kT [0, 1, 5, 69, 61, 65, 2, 6, 70, 74, 62, 66, 82, 3, 7, 63, 67, 4, 8, 72, 60, 64, 80])) = .ok (.normal, tC, [], h0, 83) := by kernel_rfl
theorem q3 : runCode (β := St) (seqL livesL) tab0 (callN tab0 29) fi6 tC [] h0 83 (cutK (kT [0, 1, 17]) (kT [0, 1, 5, 69, 61, 65, 2, 6, 70, 74, 62, 66, 82, 3, 7, 63, 67, 4, 8, 72, 60, 64, 80])) = .ok (.normal, t0, [], h0, 83) := by kernel_rfl
theorem r0 : loopSeg (runCode (β := St) livesB tab0 (callN tab0 29) fi6) (kT [0, 1, 17]) (kT [0, 1, 5, 69, 61, 65, 2, 6, 70, 74, 714, 62, 418, 66, 82, 3, 7, 1063, 63, 67, 4, 8, 72, 60, 1020, 64, 80]) 5 t0 [] h0 83 = .ok (.normal, t1, [], h1, 1064) := by kernel_rfl
theorem r1 : loopSeg (runCode (β := St) livesB tab0 (callN tab0 29) fi6) (kT [0, 1, 17]) (kT [0, 1, 5, 69, 1497, 61, 65, 2, 6, 70, 74, 714, 62, 418, 66, 82, 3, 7, 63, 67, 4, 8, 72, 60, 1020, 64, 80]) 5 t1 [] h1 1064 = .ok (.normal, t2, [], h2, 1498) := by kernel_rfl
theorem r2 : loopSeg (runCode (β := St) livesB tab0 (callN tab0 29) fi6) (kT [0, 1, 17]) (kT [0, 1, 5, 69, 61, 65, 2, 6, 70, 74, 714, 1994, 62, 418, 66, 82, 3, 7, 63, 67, 4, 8, 72, 60, 1020, 64, 80, 1956]) 5 t2 [] h2 1498 = .ok (.normal, t3, [], h3, 1995) := by kernel_rfl
theorem r3 : loopSeg (runCode (β := St) livesB tab0 (callN tab0 29) fi6) (kT [0, 1, 17]) (kT [0, 1, 5, 69, 61, 2573, 2381, 65, 2, 6, 70, 2054, 74, 714, 62, 418, 66, 82, 3, 7, 2171, 63, 67, 4, 8, 72, 60, 1020, 64, 80, 1956]) 5 t3 [] h3 1995 = .ok (.normal, t4, [], h4, 2574) := by kernel_rfl
end Go.Proofs.YthdoelcgdgcncaaGreatDoor

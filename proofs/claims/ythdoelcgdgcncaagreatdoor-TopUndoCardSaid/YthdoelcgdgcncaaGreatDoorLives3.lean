/- lives answers true wherever the package's variables are as they were laid. -/
import Derived.Test.YthdoelcgdgcncaaGreatDoorLives0
import Derived.Test.YthdoelcgdgcncaaGreatDoorLives1
import Derived.Test.YthdoelcgdgcncaaGreatDoorLives2
import Derived.Test.YthdoelcgdgcncaaGreatDoorRows
set_option maxRecDepth 1000000
namespace Go.Proofs.YthdoelcgdgcncaaGreatDoor
open Go Go.Can
theorem mixed : Tryz.prog.follows .mixedOrders = true := by kernel_rfl
theorem lives_eq : lives0 = livesPre (.block 0 (.loop livesB)) livesZ := by kernel_rfl
theorem lives_seg : Seg Tryz.prog tab0 fi6 lives0 .nil [] heap0 9 (.ret, tR, [], .nil, 5914) := by
  have C : ∀ c, CodeOK Tryz.prog tab0 fi6 (runCode (β := St) c tab0 (callN tab0 29) fi6) c := fun c => @codeOK_of _ _ tabOK0 (primsOK0 St) mixed 29 fi6 c
  rw [lives_eq]
  exact Seg.seq (Seg.of (C _) q0) (Seg.seq (Seg.of (C _) q1) (Seg.seq (Seg.of (C _) q2) (Seg.seq (Seg.seq (Seg.of (C _) q3) (Seg.block (Seg.loop (Rnds.more (C _) (Rnds.more (C _) (Rnds.more (C _) (Rnds.more (C _) (Rnds.more (C _) (Rnds.more (C _) (Rnds.more (C _) (Rnds.more (C _) (Rnds.more (C _) (Rnds.more (C _) (Rnds.more (C _) (Rnds.more (C _) (Rnds.last (C _) 5 r12) 5 r11) 5 r10) 5 r9) 5 r8) 5 r7) 5 r6) 5 r5) 5 r4) 5 r3) 5 r2) 5 r1) 5 r0)))) (Seg.of (C _) qz))))
theorem lives_const : ConstIs Tryz.prog 6 gs (.bool true) :=
  const_of_seg (fn := Tryz.f6) (tab := tab0) tabOK0 Tryz.func6 (by kernel_rfl) (show Tryz.f6.body = some lives0 from by kernel_rfl) Tryz.results6 (by kernel_rfl) (by kernel_rfl) rfl (by kernel_rfl) lives_seg
noncomputable def laid : List (String × DataW Unit) := [("math/bits.deBruijn64tab", Rows.laid_math_bits_deBruijn64tab), ("tenement/alu.shapes", Rows.laid_tenement_alu_shapes), ("tenement/buffer.kinds", Rows.laid_tenement_buffer_kinds), ("tenement/desc.places", Rows.laid_tenement_desc_places), ("tenement/desc.named", Rows.laid_tenement_desc_named), ("tenement/desc.low", Rows.laid_tenement_desc_low), ("tenement/desc.kinds", Rows.laid_tenement_desc_kinds), ("tenement/isa.words", Rows.laid_tenement_isa_words), ("tenement/isa.masks", Rows.laid_tenement_isa_masks)]
theorem laid_rows : LaidRows Tryz.prog laid gs := ⟨laidRow_mk (t := 426) (by kernel_rfl) (by kernel_rfl) (by kernel_rfl) (by kernel_rfl) (fun w => by kernel_rfl), laidRow_mk (t := 367) (by kernel_rfl) (by kernel_rfl) (by kernel_rfl) (by kernel_rfl) (fun w => by kernel_rfl), laidRow_mk (t := 445) (by kernel_rfl) (by kernel_rfl) (by kernel_rfl) (by kernel_rfl) (fun w => by kernel_rfl), laidRow_mk (t := 504) (by kernel_rfl) (by kernel_rfl) (by kernel_rfl) (by kernel_rfl) (fun w => by kernel_rfl), laidRow_mk (t := 24) (by kernel_rfl) (by kernel_rfl) (by kernel_rfl) (by kernel_rfl) (fun w => by kernel_rfl), laidRow_mk (t := 24) (by kernel_rfl) (by kernel_rfl) (by kernel_rfl) (by kernel_rfl) (fun w => by kernel_rfl), laidRow_mk (t := 456) (by kernel_rfl) (by kernel_rfl) (by kernel_rfl) (by kernel_rfl) (fun w => by kernel_rfl), laidRow_mk (t := 431) (by kernel_rfl) (by kernel_rfl) (by kernel_rfl) (by kernel_rfl) (fun w => by kernel_rfl), laidRow_mk (t := 430) (by kernel_rfl) (by kernel_rfl) (by kernel_rfl) (by kernel_rfl) (fun w => by kernel_rfl), trivial⟩
end Go.Proofs.YthdoelcgdgcncaaGreatDoor

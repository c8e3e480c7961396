/-
  DERIVED. GIVEN WITH THE SEED: THE PROGRAM's TIES (one call each: nine closed facts by the kernel) AND EACH ROW's TIE, after the 31st guide's Derived/Test/Toyas{Tie, Card}.lean. No idea stands in it: it is a product of the set-up. Laid BY PROGRAM, IN A SANDBOX (cutbox-door.mjs). By AI agents, Wed Nov 11 2026. No macro, syntax, notation, axiom, sorry.
-/
import Derived.Test.YthdoelcgdgcncaaGreatDoorRows
import Derived.LaidByTextLater
import Derived.SevenTiedAt
import Derived.LaidSub
import Derived.LaidOnce
namespace Go.Proofs.YthdoelcgdgcncaaGreatDoor
open Go
set_option maxRecDepth 100000
theorem seatTie1 : Tryz.prog.laidByTextLater [("math/bits.deBruijn64tab", Rows.laid_math_bits_deBruijn64tab), ("tenement/alu.shapes", Rows.laid_tenement_alu_shapes), ("tenement/buffer.kinds", Rows.laid_tenement_buffer_kinds), ("tenement/desc.places", Rows.laid_tenement_desc_places), ("tenement/desc.named", Rows.laid_tenement_desc_named), ("tenement/desc.low", Rows.laid_tenement_desc_low), ("tenement/desc.kinds", Rows.laid_tenement_desc_kinds), ("tenement/isa.words", Rows.laid_tenement_isa_words), ("tenement/isa.masks", Rows.laid_tenement_isa_masks)] [.data, .data, .data, .data, .data, .data, .data, .data, .data] true :=
  Program.laidByTextLater_by_one 82 8 96 (by kernel_rfl) (by kernel_rfl) (by kernel_rfl) (by kernel_rfl) (by kernel_rfl) (by kernel_rfl) (fun _ _ => by kernel_rfl)
theorem noOwnUnsafe : Tryz.pinned.checked.prog.headLifts.contains "ownunsafe" = false := by kernel_rfl
theorem tie : Tryz.prog.laidByTextLater [("math/bits.deBruijn64tab", Rows.laid_math_bits_deBruijn64tab), ("tenement/alu.shapes", Rows.laid_tenement_alu_shapes), ("tenement/buffer.kinds", Rows.laid_tenement_buffer_kinds), ("tenement/desc.places", Rows.laid_tenement_desc_places), ("tenement/desc.named", Rows.laid_tenement_desc_named), ("tenement/desc.low", Rows.laid_tenement_desc_low), ("tenement/desc.kinds", Rows.laid_tenement_desc_kinds), ("tenement/isa.words", Rows.laid_tenement_isa_words), ("tenement/isa.masks", Rows.laid_tenement_isa_masks)] [.data, .data, .data, .data, .data, .data, .data, .data, .data] true :=
  Program.laidByTextLater.sub seatTie1 ["math/bits.deBruijn64tab", "tenement/alu.shapes", "tenement/buffer.kinds", "tenement/desc.places", "tenement/desc.named", "tenement/desc.low", "tenement/desc.kinds", "tenement/isa.words", "tenement/isa.masks"] (by kernel_rfl) (by kernel_rfl)
theorem topUndo_row_tie : Rows.topUndoRow.laidByTextAt .later Tryz.pinned [.data, .data, .data, .data, .data, .data, .data, .data, .data] true :=
  OpenClaim.laidByTextAt_later rfl rfl tie noOwnUnsafe
theorem topUndoUpto_row_tie : Rows.topUndoUptoRow.laidByTextAt .later Tryz.pinned [.data, .data, .data, .data, .data, .data, .data, .data, .data] true :=
  OpenClaim.laidByTextAt_later rfl rfl tie noOwnUnsafe
end Go.Proofs.YthdoelcgdgcncaaGreatDoor

/- TopUndo: the row and the card: whatever the regions, the call and the page, the law returns true and leaves its arguments alone. Condition: the nine listed package variables read as the program's text lays them (the card ties them to it). -/
import Derived.Test.YthdoelcgdgcncaaGreatDoorRow
set_option maxRecDepth 100000
set_option maxHeartbeats 4000000
set_option linter.unusedVariables false
set_option linter.unusedSimpArgs false
namespace Go.Proofs.YthdoelcgdgcncaaGreatDoor
open Go Go.Can Go.ChangeShapes Go.WideShapes Go.RowKit Go.Deep

/-- The door's own heap meets the condition. -/
theorem door_met (os : Os) (args : Array Value) : laidMetH Tryz.prog laidV ((World.doorLaid Tryz.prog 400 os).forCall (fun _ _ => 0) ⟨#[], args, []⟩).memory :=
  laidMetH_of_parts3 (fuel := 8) (laidMet_of_run' 8 (by kernel_rfl) (by kernel_rfl)) (by kernel_rfl) (by kernel_rfl)

theorem lifted (os : Os) (started : os.Started) (H : Type) (enc : TypeId × Value → H) :
    ReturnsInHanded {} Tryz.checked os 3 .any (fun w args => (Rows.topUndoSpec.pre enc Tryz.prog Tryz.f3 [] false w args ∧ laidMetH Tryz.prog laidV w) ∧ sizedMet enc Tryz.prog Tryz.f3 (OpenSpec.ofChange Rows.topUndoSpec) false w args)
      (Rows.topUndoSpec.post enc Tryz.prog Tryz.f3 false true false false) := by
  refine returnsInHanded_of_change_and (C := Tryz.checked) (X := fun w _ => laidMetH Tryz.prog laidV w) (fun _ _ _ hh h => h.of_heap hh) own started (by kernel_rfl) Tryz.func3
    (ChangeSpec.witness_shaped (enc := enc) (C := Tryz.checked) (os := os) (X := fun w _ => laidMetH Tryz.prog laidV w) false (World.doorLaid Tryz.prog 400 os) #[.slice none 0 0, .agg #[.int .u64 0, .int .u64 0, .int .u64 0, .int .u64 0], .int .u64 0] 8 rfl
      (World.shaped_of_RefB (by kernel_rfl) (by kernel_rfl)) (by kernel_rfl) (by kernel_rfl) (by kernel_rfl) (door_met os _)) ?_
  intro W base args ds gs' before hval0 hW _ _ hL _
  have hval : ∀ (j : Nat) t v, Tryz.f3.params[j]? = some t → args[j]? = some v → Value.okWide Tryz.prog W .any base t v := hval0
  have hW' := hW
  obtain ⟨p, q, hA0, hV, rfl, hfz, hnd⟩ := hW
  have hA : DataW.TrodAll enc Tryz.prog W 0 (fun _ => true) true Tryz.f3.params.toList args.toList ds p := hA0
  rw [Tryz.params3] at hA hval
  obtain ⟨v0, v1, v2, d0, d1, d2, p0, p1, p2, rfl, rfl, rfl, h0, h1, h2⟩ := trodAll_three hA
  obtain ⟨rfl, rfl⟩ := trodVars_none hV
  obtain ⟨x, rfl, _, _, wx⟩ := open_int Tryz.underlying23 (hval 2 23 v2 rfl rfl) h2
  obtain ⟨hx0, hx1⟩ := wf_u64 wx
  refine (undo_calls (laid_preH hL) (hval 0 22 v0 rfl rfl) h0 (hval 1 26 v1 rfl rfl) h1 hx0 hx1).mono fun e W' ⟨he, hb⟩ => ?_
  subst he
  exact ⟨_, rfl, post_true laidOut reads hW' rfl hb (tb := 4) (by kernel_rfl) Tryz.underlying4 rfl rfl rfl⟩

theorem f_closed : joinedFacts Tryz.pinned.checked.prog 3 Tryz.f3 Rows.topUndoSpec Rows.topUndoRow = true := by
  show joinedFacts Tryz.prog 3 Tryz.f3 Rows.topUndoSpec Rows.topUndoRow = true
  unfold joinedFacts
  simp only [Bool.and_eq_true]
  and_intros
  all_goals as_aux_lemma => kernel_rfl

theorem f_named : Tryz.pinned.checked.prog.funcNamed Rows.topUndoRow.func = some 3 := by kernel_rfl
theorem f_inst : Tryz.f3.isInstance Tryz.pinned.checked.prog Rows.topUndoRow.origin Rows.topUndoRow.targs := of_decide_eq_true (by kernel_rfl)
theorem f_wrap : Tryz.f3.isWrapper Tryz.pinned.checked.prog Rows.topUndoRow.wrapper Rows.topUndoRow.mainSum := by
  unfold Func.isWrapper; first | (rw [if_pos (by decide +kernel)]; kernel_rfl) | (rw [if_neg (by decide +kernel)]; exact ⟨rfl, rfl⟩)
theorem f_name : Rows.topUndoRow.program = Tryz.pinned.name := by kernel_rfl
theorem f_sum : Rows.topUndoRow.sum = Tryz.pinned.sum := by kernel_rfl

theorem topUndo_said : Rows.TopUndoSaid :=
  OpenClaim.holds_of_wide 3 Tryz.f3 f_name f_sum rfl rfl rfl rfl rfl ⟨rfl, rfl, rfl, rfl, rfl⟩ rfl rfl rfl rfl rfl f_named Tryz.func3 f_closed
    f_inst f_wrap (fun os started H enc _ => lifted os started H enc)
end Go.Proofs.YthdoelcgdgcncaaGreatDoor

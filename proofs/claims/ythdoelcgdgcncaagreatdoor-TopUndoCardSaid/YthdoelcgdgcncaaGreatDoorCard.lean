/- TopUndo: the card: whatever the regions, the call and the page, the law returns true and leaves its arguments alone. Condition: the nine listed package variables read as the program's text lays them (the card ties them to it). -/
import Derived.Test.YthdoelcgdgcncaaGreatDoorSaid
set_option maxRecDepth 100000
set_option maxHeartbeats 4000000
namespace Go.Proofs.YthdoelcgdgcncaaGreatDoor
open Go

theorem f_named0 : Tryz.prog.funcNamed "tenement/tenementtop.TopUndo" = some 3 := by kernel_rfl
theorem f_wf : OpenClaim.wfByText (OpenSpec.ofChange Rows.topUndoSpec) Rows.topUndoRow = true := by kernel_rfl
theorem f_main : Tryz.pinned.checked.prog.mainIs = some (true, "6b5dde9769b49d6f23a93263c98c28d797b7fda34ce1a0828e901662b89d14ae".toList) := by kernel_rfl
theorem f_nogo : Tryz.prog.funcs.any Func.goes = false := by kernel_rfl
theorem goes_no {P : Program} (h : P.funcs.any Func.goes = false) (f : FuncId) : P.goes f = false := by
  have h1 : ∀ g : Nat, (P.funcs[g]?).any Func.goes = false := fun g => by
    cases e : P.funcs[g]? with
    | none => rfl
    | some fn =>
      show fn.goes = false
      cases hg : fn.goes with
      | false => rfl
      | true =>
        have hlt := (Array.getElem?_eq_some_iff.1 e).1
        have : P.funcs.any Func.goes = true := Array.any_eq_true.2 ⟨g, hlt, by rw [(Array.getElem?_eq_some_iff.1 e).2]; exact hg⟩
        rw [h] at this; cases this
  unfold Program.goes
  rw [h, Bool.and_false, Bool.or_false, List.any_eq_false]
  intro g _
  rw [h1 g]; exact Bool.false_ne_true
theorem f_goes : false = Rows.topUndoRow.goesBy Tryz.pinned.checked.prog := by
  show false = (Tryz.prog.goesFrom "tenement/tenementtop.TopUndo" || false)
  unfold Program.goesFrom
  rw [f_named0, Option.any_some, goes_no f_nogo]; rfl
theorem f_looks : true = Tryz.prog.looks [] := by kernel_rfl
theorem f_stand : ([22, 26, 23].all fun u => !Tryz.prog.wantsStandIn u) = true := by kernel_rfl

theorem topUndo_card : Rows.TopUndoCardSaid :=
  Claim7.holds_tied_plain_at .later [] [.data, .data, .data, .data, .data, .data, .data, .data, .data] true (true, "6b5dde9769b49d6f23a93263c98c28d797b7fda34ce1a0828e901662b89d14ae") true
    topUndo_said (fun _ h => by cases h) f_wf (fun _ h => by cases h) topUndo_row_tie rfl ⟨rfl, rfl⟩ f_main rfl
    (fun f fn hf hfn => by
      obtain rfl : f = 3 := Option.some.inj (f_named0.symm.trans hf) |>.symm
      obtain rfl : fn = Tryz.f3 := (Option.some.inj (Tryz.func3.symm.trans hfn)).symm
      exact ⟨f_looks, fun j t ht => by
        rw [Tryz.params3] at ht
        have hm : t ∈ [22, 26, 23] := by simpa using Array.mem_of_getElem? ht
        exact (show Tryz.prog.wantsStandIn t = false by simpa using List.all_eq_true.1 f_stand t hm)⟩)
    f_goes
#print axioms topUndo_card
end Go.Proofs.YthdoelcgdgcncaaGreatDoor

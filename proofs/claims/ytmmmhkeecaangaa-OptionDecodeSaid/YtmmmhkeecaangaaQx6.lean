-- Printed by a program of this session's over the kit's printer, with functions given from outside. Lean checks it.
import Derived.Test.YtmmmhkeecaangaaQx0
namespace Go.Proofs.Ytmmmhkeecaangaa.Q
open Go.RowKit Go.Proofs.YtmmmhkeecaangaaW.PrintWords Go.Proofs.YtmmmhkeecaangaaW.PrintLast Go.Proofs.YtmmmhkeecaangaaW.PrintMore
attribute [local go_sem] max2_int min2_int max_two min_two max_three min_three max_four min_four   -- for this text's walks alone
set_option linter.unusedVariables false
set_option linter.unusedSimpArgs false

/-! ### bandplanlaw30_known: function 15 -/
def bandplanlaw30_known.f  : Option (Bool) := some true
theorem bandplanlaw30_known.calls  (r : Bool) (w : World) (h : bandplanlaw30_known.f  = some r) :
    Calls Try.prog 15 #[] w fun e w' => e = .returned (.bool r) ∧ Below w.heap.size w w' := by
  unfold bandplanlaw30_known.f at h
  cases h
  refine (Wire.known_calls w).mono ?_
  rintro e w' ⟨rfl, hB⟩
  exact ⟨rfl, hB⟩

end Go.Proofs.Ytmmmhkeecaangaa.Q

-- Printed by a program of this session's over the kit's printer, with functions given from outside. Lean checks it.
import Derived.Test.YtmmmhkeecaangaaQx0
namespace Go.Proofs.Ytmmmhkeecaangaa.Q
open Go.RowKit Go.Proofs.YtmmmhkeecaangaaW.PrintWords Go.Proofs.YtmmmhkeecaangaaW.PrintLast Go.Proofs.YtmmmhkeecaangaaW.PrintMore
attribute [local go_sem] max2_int min2_int max_two min_two max_three min_three max_four min_four   -- for this text's walks alone
set_option linter.unusedVariables false
set_option linter.unusedSimpArgs false

/-! ### bandplanref30_Allowed: function 14 -/
def bandplanref30_Allowed.f (a0 : Int) (a1 : Int) (a2 : Int) : Option (Bool) := some (Wire.allowB a0 a1 a2)
theorem bandplanref30_Allowed.calls (a0 : Int) (a1 : Int) (a2 : Int) (r : Bool) (w : World) (h : bandplanref30_Allowed.f a0 a1 a2 = some r) :
    Calls Try.prog 14 #[.int .i64 a0, .int .i64 a1, .int .i64 a2] w fun e w' => e = .returned (.bool r) ∧ Drawn0 w w' := by
  unfold bandplanref30_Allowed.f at h
  cases h
  refine (Wire.refAllowed_calls w a0 a1 a2).mono ?_
  rintro e w' ⟨rfl, rfl⟩
  exact ⟨rfl, Drawn0.refl _⟩

end Go.Proofs.Ytmmmhkeecaangaa.Q

-- Printed by a program of this session's over the kit's printer, with functions given from outside. Lean checks it.
import Derived.Test.YtmmmhkeecaangaaQx0
namespace Go.Proofs.Ytmmmhkeecaangaa.Q
open Go.RowKit Go.Proofs.YtmmmhkeecaangaaW.PrintWords Go.Proofs.YtmmmhkeecaangaaW.PrintLast Go.Proofs.YtmmmhkeecaangaaW.PrintMore
attribute [local go_sem] max2_int min2_int max_two min_two max_three min_three max_four min_four   -- for this text's walks alone
set_option linter.unusedVariables false
set_option linter.unusedSimpArgs false

/-! ### option_Options: function 10 -/
def option_Options.f (a0 : Int) (a1 : Int) : Option (List Int × Int) := some ((if Wire.goodB a0 a1 = true then Wire.rangeI a1 a0 else []), (if Wire.goodB a0 a1 = true then 0 else 2))
theorem option_Options.calls (a0 : Int) (a1 : Int) (r1 : List Int) (r2 : Int) (w : World) (h : option_Options.f a0 a1 = some (r1, r2)) :
    Calls Try.prog 10 #[.int .i64 a0, .int .i64 a1] w fun e w' => ∃ v0_ : Value, e = .returned (.tuple #[v0_, .int .i64 r2]) ∧ Kd.R (Kd.int .i64) 3 w' w.heap.size (fun _ => True) v0_ r1 ∧ Below w.heap.size w w' := by
  unfold option_Options.f at h
  cases h
  refine (Wire.options_calls w w a0 a1 (Below.refl _ _)).mono ?_
  rintro e w' ⟨v, rfl, hR, hB, hK⟩
  exact ⟨v, rfl, Kd.R_mono hR (fun _ _ => trivial), hB⟩

end Go.Proofs.Ytmmmhkeecaangaa.Q

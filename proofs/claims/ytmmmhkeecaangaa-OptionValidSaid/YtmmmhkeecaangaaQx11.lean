-- Printed by a program of this session's over the kit's printer, with functions given from outside. Lean checks it.
import Derived.Test.YtmmmhkeecaangaaQx0
namespace Go.Proofs.Ytmmmhkeecaangaa.Q
open Go.RowKit Go.Proofs.YtmmmhkeecaangaaW.PrintWords Go.Proofs.YtmmmhkeecaangaaW.PrintLast Go.Proofs.YtmmmhkeecaangaaW.PrintMore
attribute [local go_sem] max2_int min2_int max_two min_two max_three min_three max_four min_four   -- for this text's walks alone
set_option linter.unusedVariables false
set_option linter.unusedSimpArgs false

/-! ### option_Valid: function 18 -/
def option_Valid.f (a0_0 : Int) (a0_1 : Int) (l0_2 : List Int) : Option (Bool) := some (Wire.validB a0_0 a0_1 l0_2)
theorem option_Valid.calls (a0_0 : Int) (a0_1 : Int) (A0_2 : Option Addr) (c0_2 : Nat) (l0_2 : List Int) (r : Bool) (w : World) (hr0_2 : Kd.C (Kd.int .i64) w A0_2 l0_2.length l0_2) (hc0_2 : l0_2.length ≤ c0_2) (h : option_Valid.f a0_0 a0_1 l0_2 = some r) :
    Calls Try.prog 18 #[.agg #[.int .i64 a0_0, .int .i64 a0_1, .slice A0_2 l0_2.length c0_2]] w fun e w' => e = .returned (.bool r) ∧ Below w.heap.size w w' := by
  unfold option_Valid.f at h
  cases h
  refine (Wire.bidValid_calls w w a0_0 a0_1 A0_2 c0_2 l0_2 (Below.refl _ _) hr0_2 hc0_2).mono ?_
  rintro e w' ⟨rfl, hB, hK⟩
  exact ⟨rfl, hB⟩

end Go.Proofs.Ytmmmhkeecaangaa.Q

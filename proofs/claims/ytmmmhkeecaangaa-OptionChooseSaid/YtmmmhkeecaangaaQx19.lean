-- Printed by a program of this session's over the kit's printer, with functions given from outside. Lean checks it.
import Derived.Test.YtmmmhkeecaangaaQx0
namespace Go.Proofs.Ytmmmhkeecaangaa.Q
open Go.RowKit Go.Proofs.YtmmmhkeecaangaaW.PrintWords Go.Proofs.YtmmmhkeecaangaaW.PrintLast Go.Proofs.YtmmmhkeecaangaaW.PrintMore
attribute [local go_sem] max2_int min2_int max_two min_two max_three min_three max_four min_four   -- for this text's walks alone
set_option linter.unusedVariables false
set_option linter.unusedSimpArgs false

/-! ### option_Choose: function 24 -/
def option_Choose.f (a0_0 : Int) (a0_1 : Int) (l0_2 : List Int) (a1 : Int) (a2 : Int) (l3 : List Int) : Option (Int × Int) := if l3.length ≤ 100000000 then some ((if Wire.chooseB a0_0 a0_1 l0_2 a1 a2 l3 = true then Wire.pickB a0_1 l0_2 a2 l3 else 0), (if Wire.chooseB a0_0 a0_1 l0_2 a1 a2 l3 = true then 0 else 2)) else none
theorem option_Choose.calls (a0_0 : Int) (a0_1 : Int) (A0_2 : Option Addr) (c0_2 : Nat) (l0_2 : List Int) (a1 : Int) (a2 : Int) (A3 : Option Addr) (c3 : Nat) (l3 : List Int) (r1 : Int) (r2 : Int) (w : World) (hr0_2 : Kd.C (Kd.int .i64) w A0_2 l0_2.length l0_2) (hc0_2 : l0_2.length ≤ c0_2) (hr3 : Kd.C (Kd.int .i64) w A3 l3.length l3) (hc3 : l3.length ≤ c3) (h : option_Choose.f a0_0 a0_1 l0_2 a1 a2 l3 = some (r1, r2)) :
    Calls Try.prog 24 #[.agg #[.int .i64 a0_0, .int .i64 a0_1, .slice A0_2 l0_2.length c0_2], .int .i64 a1, .int .i64 a2, .slice A3 l3.length c3] w fun e w' => e = .returned (.tuple #[.int .i64 r1, .int .i64 r2]) ∧ Below w.heap.size w w' := by
  unfold option_Choose.f at h
  split at h
  · rename_i hb
    cases h
    refine (Wire.choose_calls w w a0_0 a0_1 a1 a2 A0_2 c0_2 l0_2 A3 c3 l3 (Below.refl _ _) hr0_2 hc0_2 hr3 hb).mono ?_
    rintro e w' ⟨rfl, hB, hK⟩
    exact ⟨rfl, hB⟩
  · cases h

end Go.Proofs.Ytmmmhkeecaangaa.Q

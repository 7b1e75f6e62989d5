-- Printed by a program of this session's over the kit's printer, with functions given from outside. Lean checks it.
import Derived.Test.YtmmmhkeecaangaaQx0
namespace Go.Proofs.Ytmmmhkeecaangaa.Q
open Go.RowKit Go.Proofs.YtmmmhkeecaangaaW.PrintWords Go.Proofs.YtmmmhkeecaangaaW.PrintLast Go.Proofs.YtmmmhkeecaangaaW.PrintMore
attribute [local go_sem] max2_int min2_int max_two min_two max_three min_three max_four min_four   -- for this text's walks alone
set_option linter.unusedVariables false
set_option linter.unusedSimpArgs false

/-! ### option_ValidBids: function 22 -/
def option_ValidBids.f (l0 : List (S37)) : Option (Bool) := if l0.length ≤ 100000000 then some (Wire.validBids (l0.map toBid)) else none
theorem option_ValidBids.calls (A0 : Option Addr) (c0 : Nat) (l0 : List (S37)) (r : Bool) (w : World) (hr0 : Kd.C k37 w A0 l0.length l0) (hc0 : l0.length ≤ c0) (h : option_ValidBids.f l0 = some r) :
    Calls Try.prog 22 #[.slice A0 l0.length c0] w fun e w' => e = .returned (.bool r) ∧ Below w.heap.size w w' := by
  unfold option_ValidBids.f at h
  split at h
  · rename_i hb
    cases h
    have hC := C_toBid hr0
    have e : l0.length = (l0.map toBid).length := by simp
    rw [e] at hb hC ⊢
    refine (Wire.validBids_calls w w A0 c0 (l0.map toBid) (Below.refl _ _) hC hb).mono ?_
    rintro e w' ⟨rfl, hB, hK⟩
    exact ⟨rfl, hB⟩
  · cases h

end Go.Proofs.Ytmmmhkeecaangaa.Q

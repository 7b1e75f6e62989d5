-- Printed by a program of this session's over the kit's printer, with functions given from outside. Lean checks it.
import Derived.Test.YtmmmhkeecaangaaQx0
namespace Go.Proofs.Ytmmmhkeecaangaa.Q
open Go.RowKit Go.Proofs.YtmmmhkeecaangaaW.PrintWords Go.Proofs.YtmmmhkeecaangaaW.PrintLast Go.Proofs.YtmmmhkeecaangaaW.PrintMore
attribute [local go_sem] max2_int min2_int max_two min_two max_three min_three max_four min_four   -- for this text's walks alone
set_option linter.unusedVariables false
set_option linter.unusedSimpArgs false

/-! ### option_Encode: function 26 -/
def option_Encode.f (l0 : List (S37)) : Option (List Int × Int) := if l0.length ≤ 100000000 then some ((if Wire.validBids (l0.map toBid) = true ∧ (Wire.encS (l0.map toBid)).1 = 0 then (Wire.encS (l0.map toBid)).2 else []), (if Wire.validBids (l0.map toBid) = true then (Wire.encS (l0.map toBid)).1 else 2)) else none
theorem option_Encode.calls (A0 : Option Addr) (c0 : Nat) (l0 : List (S37)) (r1 : List Int) (r2 : Int) (w : World) (hr0 : Kd.C k37 w A0 l0.length l0) (hc0 : l0.length ≤ c0) (h : option_Encode.f l0 = some (r1, r2)) :
    Calls Try.prog 26 #[.slice A0 l0.length c0] w fun e w' => ∃ v0_ : Value, e = .returned (.tuple #[v0_, .int .i64 r2]) ∧ Kd.R (Kd.int .u8) 5 w' w.heap.size (fun _ => True) v0_ r1 ∧ Below w.heap.size w w' := by
  unfold option_Encode.f at h
  split at h
  · rename_i hb
    cases h
    have hC := C_toBid hr0
    have e : l0.length = (l0.map toBid).length := by simp
    rw [e] at hb hC ⊢
    refine (Wire.encode_calls w w A0 c0 (l0.map toBid) (Below.refl _ _) hC hb).mono ?_
    rintro e w' ⟨v, rfl, hR, hB, hK⟩
    exact ⟨v, rfl, Kd.R_mono hR (fun _ _ => trivial), hB⟩
  · cases h

end Go.Proofs.Ytmmmhkeecaangaa.Q

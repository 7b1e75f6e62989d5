/- OptionHolds: its plain part: the law answers true. Conditions: those of its arguments' kinds. -/
import Derived.Test.YtmmmhkeecaangaaHHx1
import Derived.Test.YtmmmhkeecaangaaHHOpen
namespace Go.Proofs.Ytmmmhkeecaangaa.HH
open Go.RowKit Go.Proofs.YtmmmhkeecaangaaW.PrintWords Go.Proofs.YtmmmhkeecaangaaW.PrintLast Go.Proofs.YtmmmhkeecaangaaW.PrintMore
set_option linter.unusedVariables false
set_option linter.unusedSimpArgs false

theorem wf_u8 {x : Int} (h : (Lit.int .u8 x).wf = true) : 0 ≤ x ∧ x < 256 := by
  simp [Lit.wf] at h
  have a1 : IntKind.u8.min = 0 := by rfl
  have a2 : IntKind.u8.max = 255 := by rfl
  omega
theorem OptionHolds_true (x0 : S37) (o0 : okT_37 x0) (a1 : Int) (w1 : (Lit.int .i64 a1).wf = true) (a2 : Int) (w2 : (Lit.int .i64 a2).wf = true) (l3 : List Int) (hm3 : l3.length ≤ maxLen) (y3 : l3.length * 8 ≤ 140737488351232) (hw3 : ∀ x ∈ l3, (Lit.int .i64 x).wf = true) (l4 : List Int) (hm4 : l4.length ≤ maxLen) (y4 : l4.length * 1 ≤ 140737488351232) (hw4 : ∀ x ∈ l4, (Lit.int .u8 x).wf = true) : bandplanlaw30_OptionHolds.f x0.f0 x0.f1 x0.f2 a1 a2 l3 l4 = some true := by
  unfold bandplanlaw30_OptionHolds.f
  rw [if_pos (fun x hx => wf_u8 (hw4 x hx))]
end Go.Proofs.Ytmmmhkeecaangaa.HH

/- OptionEncode: its plain part: the law answers true. Conditions: those of its arguments' kinds. -/
import Derived.Test.YtmmmhkeecaangaaPoc
import Derived.Test.YtmmmhkeecaangaaQx26
import Derived.Test.YtmmmhkeecaangaaQOpen
namespace Go.Proofs.Ytmmmhkeecaangaa.Q
open Go.RowKit Go.Proofs.YtmmmhkeecaangaaW.PrintWords Go.Proofs.YtmmmhkeecaangaaW.PrintLast Go.Proofs.YtmmmhkeecaangaaW.PrintMore Go.Proofs.Ytmmmhkeecaangaa.Wire
set_option linter.unusedVariables false
set_option linter.unusedSimpArgs false

theorem OptionEncode_true (l0 : List S37) (o0 : okT_38 l0) : Ev (fun k => bandplanlaw30_OptionEncode.f k l0) true := by
  unfold bandplanlaw30_OptionEncode.f
  by_cases h1 : (l0.length : Int) > 30
  · simp only [if_pos h1, bandplanlaw30_known.f, Option.bind_some]; exact Ev.now _
  simp only [if_neg h1, option_Encode.f, bandplanlaw30_known.f, Option.bind_some, if_pos (show l0.length ≤ 100000000 by omega)]
  refine Ev.bind (encode_ev l0 (by omega)) ?_
  cases hv : validBids (l0.map toBid) with
  | false => simp only [Bool.false_eq_true, if_false, false_and, if_true]; exact Ev.now _
  | true =>
    rw [encS_ok _ hv (by rw [List.length_map]; omega)]
    simp only [if_true, true_and, and_self]
    exact Ev.now _
end Go.Proofs.Ytmmmhkeecaangaa.Q

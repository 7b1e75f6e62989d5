/- OptionOpen: its plain part: the law answers true. Conditions: those of its arguments' kinds. -/
import Derived.Test.YtmmmhkeecaangaaPoc
import Derived.Test.YtmmmhkeecaangaaQx10
import Derived.Test.YtmmmhkeecaangaaQOpen
namespace Go.Proofs.Ytmmmhkeecaangaa.Q
open Go.RowKit Go.Proofs.YtmmmhkeecaangaaW.PrintWords Go.Proofs.YtmmmhkeecaangaaW.PrintLast Go.Proofs.YtmmmhkeecaangaaW.PrintMore Go.Proofs.Ytmmmhkeecaangaa.Wire
set_option linter.unusedVariables false
set_option linter.unusedSimpArgs false

theorem wf_i64 {n : Int} (h : (Lit.int .i64 n).wf = true) : -9223372036854775808 ≤ n ∧ n ≤ 9223372036854775807 := by
  simp [Lit.wf] at h
  have a1 : IntKind.i64.min = -9223372036854775808 := by rfl
  have a2 : IntKind.i64.max = 9223372036854775807 := by rfl
  omega
theorem OptionOpen_true (x0 : S32) (o0 : okT_32 x0) (a1 : Int) (w1 : (Lit.int .i64 a1).wf = true) (a2 : Int) (w2 : (Lit.int .i64 a2).wf = true) (a3 : Int) (w3 : (Lit.int .i64 a3).wf = true) : Ev (fun k => bandplanlaw30_OptionOpen.f k x0.f0 a1 a2 a3) true := by
  unfold bandplanlaw30_OptionOpen.f
  simp only [option_Open.f, bandplanref30_Open.f, bandplanlaw30_known.f]
  rw [if_pos (wf_i64 o0)]
  simp only [Option.bind_some, if_true]
  have hl : (if fineB x0.f0 a1 a2 a3 = true then openL x0.f0 a1 a2 a3 else []).length < 4611686018427387904 := by
    by_cases h : fineB x0.f0 a1 a2 a3 = true
    · rw [if_pos h]
      unfold openL
      have h1 := List.length_filter_le (fun o => !shutB x0.f0 a3 o) (rangeI a2 a1)
      rw [rangeI_len] at h1
      have h2 : goodB a1 a2 = true := by unfold fineB at h; simp only [Bool.and_eq_true] at h; exact h.1
      have := (goodB_iff a1 a2).1 h2
      omega
    · rw [if_neg h]; simp
  refine Ev.bind (same_refl _ hl) ?_
  simp only [if_true]
  exact Ev.now _
end Go.Proofs.Ytmmmhkeecaangaa.Q

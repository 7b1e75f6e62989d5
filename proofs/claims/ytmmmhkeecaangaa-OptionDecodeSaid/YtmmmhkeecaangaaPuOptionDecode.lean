/- OptionDecode: its plain part: the law answers true. Conditions: those of its arguments' kinds. -/
import Derived.Test.YtmmmhkeecaangaaPoe
import Derived.Test.YtmmmhkeecaangaaQx32
namespace Go.Proofs.Ytmmmhkeecaangaa.Q
open Go.RowKit Go.Proofs.YtmmmhkeecaangaaW.PrintWords Go.Proofs.YtmmmhkeecaangaaW.PrintLast Go.Proofs.YtmmmhkeecaangaaW.PrintMore Go.Proofs.Ytmmmhkeecaangaa.Wire
set_option linter.unusedVariables false
set_option linter.unusedSimpArgs false

theorem decL_facts (b : List Int) (hby : ∀ x ∈ b, 0 ≤ x ∧ x < 256) : (decL b).length ≤ 512 ∧ ∀ x ∈ decL b, x.f2.length ≤ 3 := by
  unfold decL
  by_cases h : decE b = 0 ∧ validBids (decAll b).1 = true
  · rw [if_pos h]
    refine ⟨?_, fun x hx => (validB_facts (vbL_all _ true 0 h.2 x hx)).2.1⟩
    have := cR_le (lim := 512) (b := b) (0, 0) (by decide) hby
    unfold decAll
    rw [decAt_len]; omega
  · rw [if_neg h]; exact ⟨by simp, fun x hx => by cases hx⟩
theorem wf_u8 {x : Int} (h : (Lit.int .u8 x).wf = true) : 0 ≤ x ∧ x < 256 := by
  simp [Lit.wf] at h
  have a1 : IntKind.u8.min = 0 := by rfl
  have a2 : IntKind.u8.max = 255 := by rfl
  omega
theorem OptionDecode_true (l0 : List Int) (hm0 : l0.length ≤ maxLen) (y0 : l0.length * 1 ≤ 140737488351232) (hw0 : ∀ x ∈ l0, (Lit.int .u8 x).wf = true) : Ev (fun k => bandplanlaw30_OptionDecode.f k l0) true := by
  unfold bandplanlaw30_OptionDecode.f
  by_cases h1 : (l0.length : Int) > 1000
  · simp only [if_pos h1, bandplanlaw30_known.f, Option.bind_some]; exact Ev.now _
  have hby : ∀ x ∈ l0, 0 ≤ x ∧ x < 256 := fun x hx => wf_u8 (hw0 x hx)
  simp only [if_neg h1, option_Decode.f, bandplanlaw30_known.f]
  rw [if_pos ⟨by omega, hby⟩]
  simp only [Option.bind_some]
  refine Ev.bind (decode_ev l0 (by omega) hby) ?_
  have hf := decL_facts l0 hby
  refine Ev.bind (sameBids_refl _ (by rw [List.length_map]; omega) (fun x hx => ?_)) ?_
  · obtain ⟨y, hy, rfl⟩ := List.mem_map.1 hx
    have := hf.2 y hy
    show y.f2.length < 1000000000
    omega
  simp only [if_true]
  exact Ev.now _
end Go.Proofs.Ytmmmhkeecaangaa.Q

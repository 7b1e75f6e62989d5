/- What a law's arguments open to: structs, and slices of structs. -/
import Derived.Test.YtmmmhkeecaangaaHHx0
import Derived.WalkKit
import Derived.ProofKit
import Derived.OpenShut
import Derived.ChangeOld
import Derived.Deep.Slices
import Derived.ShutString
namespace Go.Proofs.Ytmmmhkeecaangaa.HH
open Go.ChangeShapes Go.WideShapes Go.ChangeAt Go.RowKit
open Go.Deep (open_slice choose_lt)
open Go.Proofs.YtmmmhkeecaangaaW.PrintWords
set_option linter.unusedVariables false
section
variable {H : Type} {enc : TypeId × Value → H} {w : World}
def okT_3 (v : Int) : Prop := (Lit.int .i64 v).wf = true
theorem op_3 {fuel : Nat} {cs : List Value} {x : DataW H × List MemPlace} (h : DataW.trod enc Try.prog w 0 (fun _ => true) true fuel 3 cs = some x) : ∃ v : Int, okT_3 v ∧ (Kd.int .i64).K w v cs := by
  obtain ⟨n0, e0, _, w0⟩ := DataW.trod_int Try.underlying3 h
  exact ⟨n0, w0, e0⟩
def okT_22 (l : List Int) : Prop := l.length ≤ maxLen ∧ ∀ y ∈ l, okT_3 y
theorem op_22 {fuel : Nat} {cs : List Value} {x : DataW H × List MemPlace} (h : DataW.trod enc Try.prog w 0 (fun _ => true) true fuel 22 cs = some x) : ∃ l : List Int, okT_22 l ∧ (Kd.slice 3 (Kd.int .i64)).K w l cs := by
  have h4 : Try.prog.cellsOf 3 = 1 := by kernel_rfl
  rcases open_slice Try.underlying22 h with ⟨hcs, _⟩ | ⟨ad, len', cap', m, n, D, Pl, hcs, _, hl, hm, hmm, _, hx⟩
  · subst hcs
    exact ⟨[], ⟨Nat.zero_le _, fun y hy => by cases hy⟩, none, 0, rfl, Nat.le_refl _, Kd.C_nil _ _⟩
  · subst hcs
    simp at hmm
    subst hmm
    have each : ∀ i, i < len' → ∃ v : Int, okT_3 v ∧ ∃ cs', cs'.length = 1 ∧ (Kd.int .i64).K w v cs' ∧ ∀ j u, cs'[j]? = some u → w.cell? (ad.add (i * 1 + j)) = some u := fun i hi => by
      obtain ⟨cs', h1, h2⟩ := hx i (by omega)
      obtain ⟨v, hv, hk⟩ := op_3 h2
      rw [h4] at h1
      obtain ⟨_, hlen, hcell⟩ := World.cells?_some h1
      refine ⟨v, hv, cs', hlen, hk, fun j u hj => ?_⟩
      have hjl := (List.getElem?_eq_some_iff.1 hj).1
      rw [← add_add, hcell j (by omega), hj]
    obtain ⟨f, hf⟩ := choose_lt each
    have hlen : ((List.range len').map f).length = len' := by simp
    refine ⟨(List.range len').map f, ⟨by rw [hlen]; omega, fun y hy => ?_⟩, some ad, m, by rw [hlen], by rw [hlen]; exact hl, ?_⟩
    · simp only [List.mem_map, List.mem_range] at hy
      obtain ⟨i, hi, rfl⟩ := hy
      exact (hf i hi).1
    · refine ⟨rfl, by rw [hlen]; have : maxLen ≤ 9223372036854775807 := by decide
                      omega, fun _ => ⟨ad, rfl, fun j p hj => ?_⟩⟩
      have hjl : j < len' := by have := (List.getElem?_eq_some_iff.1 hj).1; rw [hlen] at this; exact this
      have hp : f j = p := by simpa [hjl] using hj
      obtain ⟨_, cs', hc, hk, hcell⟩ := hf j hjl
      exact ⟨cs', hc, by rw [← hp]; exact hk, hcell⟩
def okT_37 (v : S37) : Prop := okT_3 v.f0 ∧ okT_3 v.f1 ∧ okT_22 v.f2
set_option maxRecDepth 100000 in
theorem op_37 {fuel : Nat} {cs : List Value} {x : DataW H × List MemPlace} (h : DataW.trod enc Try.prog w 0 (fun _ => true) true fuel 37 cs = some x) : ∃ v : S37, okT_37 v ∧ k37.K w v cs := by
  obtain ⟨xs, n, _, _, hlen, hxl, hf⟩ := DataW.trod_struct Try.underlying37 h
  have hct : Try.prog.cellsOf 37 = 3 := by kernel_rfl
  have hc3 : Try.prog.cellsOf 3 = 1 := by kernel_rfl
  have hc22 : Try.prog.cellsOf 22 = 1 := by kernel_rfl
  rw [hct] at hlen
  match cs, hlen, xs, hxl with
  | [v0, v1, v2], _, [y0, y1, y2], _ =>
    have g0 := hf 0 _ rfl
    have g1 := hf 1 _ rfl
    have g2 := hf 2 _ rfl
    simp [hc3, hc22] at g0 g1 g2
    obtain ⟨u0, o0, K0⟩ := op_3 g0
    obtain ⟨u1, o1, K1⟩ := op_3 g1
    obtain ⟨u2, o2, K2⟩ := op_22 g2
    exact ⟨⟨u0, u1, u2⟩, ⟨o0, o1, o2⟩, ⟨[v0], [v1, v2], rfl, K0, ⟨[v1], [v2], rfl, K1, K2⟩⟩⟩
end
end Go.Proofs.Ytmmmhkeecaangaa.HH

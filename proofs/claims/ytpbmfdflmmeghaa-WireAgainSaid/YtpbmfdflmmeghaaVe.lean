import Derived.Test.YtpbmfdflmmeghaaVa
import Derived.WalkKit
import Derived.ProofKit
import Derived.OpenShut
import Derived.ChangeOld
import Derived.Deep.Slices
namespace Go.Proofs.Ytpbmfdflmmeghaa.Wire
open Go.ChangeShapes Go.WideShapes Go.ChangeAt Go.RowKit
open Go.Deep (open_slice choose_lt)
open Go.Proofs.YtpbmfdflmmeghaaW.PrintWords
set_option linter.unusedVariables false

section
variable {H : Type} {enc : TypeId × Value → H} {w : World}
/-- A field that is a slice of ints: what it reads as. -/
theorem open_field {t e : TypeId} {k : IntKind} {fuel : Nat} {v : Value} {x : DataW H × List MemPlace} (ht : Try.prog.underlying t = some (.slice e)) (he : Try.prog.underlying e = some (.int k)) (hc : Try.prog.cellsOf e = 1)
    (h : DataW.trod enc Try.prog w 0 (fun _ => true) true fuel t [v] = some x) :
    ∃ (A : Option Addr) (c : Nat) (l : List Int), v = .slice A l.length c ∧ l.length ≤ c ∧ (Kd.int k).C w A l.length l ∧ ∀ y ∈ l, (Lit.int k y).wf = true := by
  rcases open_ints ht he hc h with ⟨hcs, _⟩ | ⟨a, l, c, zs, hcs, _, hl, hm, hz, _, hcell, hwz⟩
  · simp at hcs
    subst hcs
    exact ⟨none, 0, [], rfl, Nat.le_refl _, Kd.C_nil _ _, by simp⟩
  · simp at hcs
    subst hcs
    obtain ⟨l', rfl, hr, hm', hw', hc'⟩ := ReadsInt.ofRowC (k := k) (w := w) (a := some a) (len := l) (cap := c) (zs := zs) (.inr ⟨a, rfl, hl, hm, by simpa using hz, hcell, hwz⟩)
    exact ⟨some a, c, l', rfl, hc', Kd.C_of_reads (d := (0 : Int)) (h1 := fun _ => rfl) hr, hw'⟩

instance : Inhabited Val := ⟨zVal⟩

theorem open_elem {fuel : Nat} {cs : List Value} {x : DataW H × List MemPlace} (h : DataW.trod enc Try.prog w 0 (fun _ => true) true fuel 35 cs = some x) :
    ∃ v : Val, ValOk v ∧ kVal.K w v cs := by
  obtain ⟨xs, n, _, _, hlen, hxl, hf⟩ := DataW.trod_struct Try.underlying35 h
  have h4 : Try.prog.cellsOf 35 = 4 := by kernel_rfl
  have c5 : Try.prog.cellsOf 5 = 1 := by kernel_rfl
  have c3 : Try.prog.cellsOf 3 = 1 := by kernel_rfl
  have c28 : Try.prog.cellsOf 28 = 1 := by kernel_rfl
  have c33 : Try.prog.cellsOf 33 = 1 := by kernel_rfl
  rw [h4] at hlen
  match cs, hlen, xs, hxl with
  | [v0, v1, v2, v3], _, [y0, y1, y2, y3], _ =>
    have g0 := hf 0 _ rfl
    have g1 := hf 1 _ rfl
    have g2 := hf 2 _ rfl
    have g3 := hf 3 _ rfl
    simp [c5, c3, c28, c33] at g0 g1 g2 g3
    obtain ⟨n0, e0, _, w0⟩ := DataW.trod_int Try.underlying5 g0
    obtain ⟨n1, e1, _, w1⟩ := DataW.trod_int Try.underlying3 g1
    obtain ⟨A2, c2, l2, rfl, hl2, hC2, hw2⟩ := open_field Try.underlying28 Try.underlying5 c5 g2
    obtain ⟨A3, c3, l3, rfl, hl3, hC3, hw3⟩ := open_field Try.underlying33 Try.underlying3 c3 g3
    simp at e0 e1
    subst e0 e1
    have u8 : ∀ y : Int, (Lit.int .u8 y).wf = true → 0 ≤ y ∧ y < 256 := fun y h => by
      simp [Lit.wf] at h
      have a1 : IntKind.u8.min = 0 := by rfl
      have a2 : IntKind.u8.max = 255 := by rfl
      omega
    have i64 : ∀ y : Int, (Lit.int .i64 y).wf = true → -9223372036854775808 ≤ y ∧ y ≤ 9223372036854775807 := fun y h => by
      simp [Lit.wf] at h
      have a1 : IntKind.i64.min = -9223372036854775808 := by rfl
      have a2 : IntKind.i64.max = 9223372036854775807 := by rfl
      omega
    exact ⟨⟨n0, n1, l2, l3⟩, ⟨(u8 _ w0).1, (u8 _ w0).2, (i64 _ w1).1, (i64 _ w1).2, fun b hb => u8 b (hw2 b hb), fun b hb => i64 b (hw3 b hb)⟩,
      ⟨[.int .u8 n0], [.int .i64 n1, .slice A2 l2.length c2, .slice A3 l3.length c3], rfl, rfl, ⟨[.int .i64 n1], [.slice A2 l2.length c2, .slice A3 l3.length c3], rfl, rfl, ⟨[.slice A2 l2.length c2], [.slice A3 l3.length c3], rfl, ⟨A2, c2, rfl, hl2, hC2⟩, ⟨A3, c3, rfl, hl3, hC3⟩⟩⟩⟩⟩

theorem open_vals {fuel : Nat} {a : Option Addr} {len cap : Nat} {x : DataW H × List MemPlace} (h : DataW.trod enc Try.prog w 0 (fun _ => true) true fuel 22 [.slice a len cap] = some x) :
    ∃ l : List Val, len = l.length ∧ Kd.C kVal w a l.length l ∧ ∀ y ∈ l, ValOk y := by
  have h4 : Try.prog.cellsOf 35 = 4 := by kernel_rfl
  rcases open_slice Try.underlying22 h with ⟨hcs, _⟩ | ⟨ad, len', cap', m, n, D, Pl, hcs, _, hl, hm, hmm, _, hx⟩
  · simp at hcs
    obtain ⟨rfl, rfl, rfl⟩ := hcs
    exact ⟨[], rfl, Kd.C_nil _ _, by simp⟩
  · simp at hcs
    obtain ⟨rfl, rfl, rfl⟩ := hcs
    simp at hmm
    subst hmm
    have each : ∀ i, i < len → ∃ v : Val, ValOk v ∧ ∃ cs', cs'.length = 4 ∧ kVal.K w v cs' ∧ ∀ j u, cs'[j]? = some u → w.cell? (ad.add (i * 4 + j)) = some u := fun i hi => by
      obtain ⟨cs', h1, h2⟩ := hx i (by omega)
      obtain ⟨v, hv, hk⟩ := open_elem h2
      rw [h4] at h1
      obtain ⟨_, hlen, hcell⟩ := World.cells?_some h1
      refine ⟨v, hv, cs', hlen, hk, fun j u hj => ?_⟩
      have hjl := (List.getElem?_eq_some_iff.1 hj).1
      rw [← add_add, hcell j (by omega), hj]
    obtain ⟨f, hf⟩ := choose_lt each
    refine ⟨(List.range len).map f, by simp, ?_, fun y hy => ?_⟩
    · refine ⟨rfl, by simp; have : maxLen ≤ 9223372036854775807 := by decide
                      omega, fun _ => ⟨ad, rfl, fun j p hj => ?_⟩⟩
      have hjl : j < len := by have := (List.getElem?_eq_some_iff.1 hj).1; simpa using this
      have hp : f j = p := by simpa [hjl] using hj
      obtain ⟨_, cs', hc, hk, hcell⟩ := hf j hjl
      exact ⟨cs', hc, by rw [← hp]; exact hk, hcell⟩
    · simp at hy
      obtain ⟨i, hi, rfl⟩ := hy
      exact (hf i hi).1
end
end Go.Proofs.Ytpbmfdflmmeghaa.Wire

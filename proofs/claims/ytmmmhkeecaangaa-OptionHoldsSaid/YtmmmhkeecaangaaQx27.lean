-- Printed by a program of this session's over the kit's printer, with functions given from outside. Lean checks it.
import Derived.Test.YtmmmhkeecaangaaQx0
namespace Go.Proofs.Ytmmmhkeecaangaa.Q
open Go.RowKit Go.Proofs.YtmmmhkeecaangaaW.PrintWords Go.Proofs.YtmmmhkeecaangaaW.PrintLast Go.Proofs.YtmmmhkeecaangaaW.PrintMore
attribute [local go_sem] max2_int min2_int max_two min_two max_three min_three max_four min_four   -- for this text's walks alone
set_option linter.unusedVariables false
set_option linter.unusedSimpArgs false

/-! ### option_Decode: function 28 -/
def ofBid (x : Wire.Bid) : S37 := ⟨x.f0, x.f1, x.f2⟩
theorem R_map {α β : Type} {d : Kd α} {d' : Kd β} (f : α → β) (hs : d'.sz = d.sz) (hM : ∀ w base ok x cs, d.M w base ok x cs → d'.M w base ok (f x) cs) {e base : Nat} {w : World} {ok : Nat → Prop} {v : Value} {xs : List α} (h : d.R e w base ok v xs) : d'.R e w base ok v (xs.map f) := by
  obtain ⟨h1, inner, ho, hr⟩ := h
  refine ⟨h1, inner, by rw [hs, List.length_map]; exact ho, by rw [List.length_map, hs]; exact hr.1, fun j p hj => ?_⟩
  rw [List.getElem?_map] at hj
  obtain ⟨x, hx, rfl⟩ := Option.map_eq_some_iff.1 hj
  rw [hs]
  exact hM _ _ _ _ _ (hr.2 j x hx)
theorem S_ofBid {base : Nat} {w : World} {ok : Nat → Prop} {v : Value} {xs : List Wire.Bid} (h : Kd.S Wire.kBid 37 w base ok v xs) : Kd.S k37 37 w base ok v (xs.map ofBid) := by
  obtain ⟨g, hg⟩ := h
  refine ⟨g, ?_⟩
  have := R_map (d := Kd.tag g Wire.kBid) (d' := Kd.tag g k37) (fun x => (ofBid x.1, x.2)) rfl (fun _ _ _ _ _ h => h) hg
  have e : xs.zipIdx.map (fun x => (ofBid x.1, x.2)) = (xs.map ofBid).zipIdx := by
    rw [List.zipIdx_map]; rfl
  rw [← e]; exact this
def option_Decode.f (l0 : List Int) : Option ((List (S37)) × Int) := if l0.length ≤ 1000000000 ∧ ∀ x ∈ l0, 0 ≤ x ∧ x < 256 then some ((Wire.decL l0).map ofBid, Wire.decErr l0) else none
theorem option_Decode.calls (A0 : Option Addr) (c0 : Nat) (l0 : List Int) (r1 : List (S37)) (r2 : Int) (w : World) (hr0 : Kd.C (Kd.int .u8) w A0 l0.length l0) (hc0 : l0.length ≤ c0) (h : option_Decode.f l0 = some (r1, r2)) :
    Calls Try.prog 28 #[.slice A0 l0.length c0] w fun e w' => ∃ v0_ : Value, e = .returned (.tuple #[v0_, .int .i64 r2]) ∧ Kd.S k37 37 w' w.heap.size (fun _ => True) v0_ r1 ∧ Below w.heap.size w w' := by
  unfold option_Decode.f at h
  split at h
  · rename_i hb
    cases h
    refine (Wire.decode_calls w w A0 c0 l0 (Below.refl _ _) hr0 hb.1 hb.2).mono ?_
    rintro e w' ⟨v, rfl, hS, hB, hK⟩
    exact ⟨v, rfl, S_ofBid (Kd.S_mono hS (fun _ _ => trivial)), hB⟩
  · cases h

end Go.Proofs.Ytmmmhkeecaangaa.Q

import Derived.Test.YtmmmhkeecaangaaQx3
import Derived.Test.YtmmmhkeecaangaaQx20
import Derived.Test.YtmmmhkeecaangaaQx21
import Derived.Test.YtmmmhkeecaangaaQx17
import Derived.Test.YtmmmhkeecaangaaQx25
namespace Go.Proofs.Ytmmmhkeecaangaa.Q
open Go.RowKit Go.Proofs.YtmmmhkeecaangaaW.PrintWords Go.Proofs.YtmmmhkeecaangaaW.PrintLast Go.Proofs.YtmmmhkeecaangaaW.PrintMore Go.Proofs.Ytmmmhkeecaangaa.Wire
set_option linter.unusedVariables false
set_option linter.unusedSimpArgs false

theorem wrap_s (i : Nat) (h : i < 4611686018427387904) : wrap64 ((i : Int) + 1) = ((i + 1 : Nat) : Int) := by unfold wrap64; omega
theorem rd_nat (l : List Int) (i : Nat) : rd l (i : Int) = l.getD i 0 := by simp [rd]

theorem same_refl (l : List Int) (hl : l.length < 4611686018427387904) : Ev (fun k => bandplanref30_Same.f k l l) true := by
  have aux : ∀ d (i : Nat), i + d = l.length → Ev (fun k => bandplanref30_Same.l0 k l l (i : Int)) true := by
    intro d
    induction d with
    | zero =>
      intro i hi
      refine Ev.step (fun _ => bandplanref30_Same.l0.eq_2 ..) ?_
      simp only [if_neg (show ¬ (i : Int) < (l.length : Int) by omega)]
      exact Ev.now true
    | succ d ih =>
      intro i hi
      refine Ev.step (fun _ => bandplanref30_Same.l0.eq_2 ..) ?_
      simp only [if_pos (show (i : Int) < (l.length : Int) by omega), if_pos (show (0 : Int) ≤ (i : Int) by omega), if_true]
      rw [wrap_s i (by omega)]
      exact ih (i + 1) (by omega)
  unfold bandplanref30_Same.f
  simp only [if_true]
  exact aux l.length 0 (by omega)
theorem has_ev (l : List Int) (a : Int) (hl : l.length < 4611686018427387904) : Ev (fun k => bandplanref30_Has.f k l a) (l.contains a) := by
  have aux : ∀ d (i : Nat), i + d = l.length → Ev (fun k => bandplanref30_Has.l0 k l a (i : Int)) ((l.drop i).contains a) := by
    intro d
    induction d with
    | zero =>
      intro i hi
      refine Ev.step (fun _ => bandplanref30_Has.l0.eq_2 ..) ?_
      simp only [if_neg (show ¬ (i : Int) < (l.length : Int) by omega)]
      rw [List.drop_eq_nil_of_le (by omega)]
      exact Ev.now _
    | succ d ih =>
      intro i hi
      refine Ev.step (fun _ => bandplanref30_Has.l0.eq_2 ..) ?_
      simp only [if_pos (show (i : Int) < (l.length : Int) by omega), if_pos (show (0 : Int) ≤ (i : Int) by omega)]
      rw [rd_nat, wrap_s i (by omega), List.drop_eq_getElem_cons (by omega), getD_at l 0 i (by omega)]
      by_cases e : l.getD i 0 = a
      · simp only [if_pos e]
        rw [show (l.getD i 0 :: l.drop (i + 1)).contains a = true by rw [e]; simp]
        exact Ev.now _
      · simp only [if_neg e]
        rw [show (l.getD i 0 :: l.drop (i + 1)).contains a = (l.drop (i + 1)).contains a by
          rw [List.contains_cons, show (a == l.getD i 0) = false by simpa using fun h => e h.symm]; simp]
        exact ih (i + 1) (by omega)
  exact aux l.length 0 (by omega)
theorem named_eq (s p : Int) (l : List Int) (hl : l.length < 1000000000) : bandplanref30_Named.f s p l = some (p :: l) := by
  unfold bandplanref30_Named.f
  simp only [Option.bind_some, List.length_singleton, List.singleton_append]
  rw [if_pos (by omega)]
end Go.Proofs.Ytmmmhkeecaangaa.Q

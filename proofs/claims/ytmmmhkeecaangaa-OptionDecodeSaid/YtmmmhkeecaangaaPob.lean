import Derived.Test.YtmmmhkeecaangaaPoa
namespace Go.Proofs.Ytmmmhkeecaangaa.Q
open Go.RowKit Go.Proofs.YtmmmhkeecaangaaW.PrintWords Go.Proofs.YtmmmhkeecaangaaW.PrintLast Go.Proofs.YtmmmhkeecaangaaW.PrintMore Go.Proofs.Ytmmmhkeecaangaa.Wire
set_option linter.unusedVariables false
set_option linter.unusedSimpArgs false

theorem contains_take_drop (L : List Int) (i j : Nat) (hi : i < L.length) (hj : j < i) (a : Int) : ((L.take i).drop j).contains a = (L.getD j 0 == a || ((L.take i).drop (j + 1)).contains a) := by
  rw [List.drop_eq_getElem_cons (by rw [List.length_take]; omega), List.contains_cons]
  have e : (L.take i)[j]'(by rw [List.length_take]; omega) = L.getD j 0 := by rw [List.getElem_take, getD_at L 0 j (by omega)]
  rw [e]
  congr 1
  rw [Bool.eq_iff_iff, beq_iff_eq, beq_iff_eq]; exact eq_comm
theorem valid_ev (s p : Int) (l : List Int) : Ev (fun k => bandplanref30_Valid.f k s p l) (validB s p l) := by
  have bad : ∀ (b : Bool), b = true → Ev (fun k => bandplanref30_Valid.j0 k b s p l) false := fun b hb => by
    refine Ev.step (fun _ => bandplanref30_Valid.j0.eq_2 ..) ?_
    simp only [if_pos hb]
    exact Ev.now _
  unfold bandplanref30_Valid.f
  by_cases a1 : s < 0
  · simp only [if_pos a1]
    rw [show validB s p l = false by unfold validB; rw [show decide (0 ≤ s) = false from decide_eq_false (by omega)]; rfl]
    exact bad true rfl
  by_cases a2 : s > 511
  · simp only [if_neg a1, if_pos a2]
    rw [show validB s p l = false by unfold validB; rw [show decide (s ≤ 511) = false from decide_eq_false (by omega)]; simp]
    exact bad true rfl
  by_cases a3 : (l.length : Int) > 3
  · simp only [if_neg a1, if_neg a2]
    rw [show validB s p l = false by unfold validB; rw [show decide (l.length ≤ 3) = false from decide_eq_false (by omega)]; simp]
    exact bad _ (decide_eq_true a3)
  simp only [if_neg a1, if_neg a2]
  rw [show validB s p l = okL (p :: l) [] by unfold validB; rw [show decide (0 ≤ s) = true from decide_eq_true (by omega), show decide (s ≤ 511) = true from decide_eq_true (by omega), show decide (l.length ≤ 3) = true from decide_eq_true (by omega)]; rfl]
  refine Ev.step (fun _ => bandplanref30_Valid.j0.eq_2 ..) ?_
  rw [named_eq s p l (by omega)]
  simp only [decide_eq_false a3, Bool.false_eq_true, if_false, Option.bind_some]
  generalize hL : p :: l = L
  have hlen : L.length ≤ 4 := by rw [← hL]; simp; omega
  have aux : ∀ d (i : Nat), i + d = L.length → Ev (fun k => bandplanref30_Valid.l0 k L (i : Int)) (okL (L.drop i) (L.take i).reverse) := by
    intro d
    induction d with
    | zero =>
      intro i hi
      refine Ev.step (fun _ => bandplanref30_Valid.l0.eq_2 ..) ?_
      simp only [if_neg (show ¬ (i : Int) < (L.length : Int) by omega)]
      rw [List.drop_eq_nil_of_le (by omega)]
      exact Ev.now _
    | succ d ih =>
      intro i hi
      have hil : i < L.length := by omega
      have hrec := ih (i + 1) (by omega)
      rw [take_cons_rev L i hil] at hrec
      refine Ev.step (fun _ => bandplanref30_Valid.l0.eq_2 ..) ?_
      simp only [if_pos (show (i : Int) < (L.length : Int) by omega), if_pos (show (0 : Int) ≤ (i : Int) by omega)]
      rw [rd_nat]
      have hok : okL (L.drop i) (L.take i).reverse = (if (decide (0 ≤ L.getD i 0) && decide (L.getD i 0 ≤ 3) && !(L.take i).reverse.contains (L.getD i 0)) = true then okL (L.drop (i + 1)) (L.getD i 0 :: (L.take i).reverse) else false) := by
        rw [List.drop_eq_getElem_cons hil, getD_at L 0 i hil]; rfl
      have hcr : (L.take i).reverse.contains (L.getD i 0) = ((L.take i).drop 0).contains (L.getD i 0) := by
        rw [List.drop_zero, Bool.eq_iff_iff]; simp
      generalize hx : L.getD i 0 = x at hrec hok hcr
      by_cases b1 : x < 0
      · simp only [if_pos b1]
        refine Ev.step (fun _ => bandplanref30_Valid.j2.eq_2 ..) ?_
        simp only [if_true]
        rw [hok, show decide (0 ≤ x) = false from decide_eq_false (by omega)]
        exact Ev.now _
      simp only [if_neg b1]
      refine Ev.step (fun _ => bandplanref30_Valid.j2.eq_2 ..) ?_
      by_cases b2 : x > 3
      · simp only [decide_eq_true b2, if_true]
        rw [hok, show decide (x ≤ 3) = false from decide_eq_false (by omega)]
        simp only [Bool.and_false, Bool.false_and, Bool.false_eq_true, if_false]
        exact Ev.now _
      simp only [decide_eq_false b2, Bool.false_eq_true, if_false]
      rw [hok, show decide (0 ≤ x) = true from decide_eq_true (by omega), show decide (x ≤ 3) = true from decide_eq_true (by omega), hcr]
      simp only [Bool.true_and]
      have aux2 : ∀ e (j : Nat), j + e = i → Ev (fun k => bandplanref30_Valid.l1 k L (i : Int) (j : Int)) (if (!((L.take i).drop j).contains x) = true then okL (L.drop (i + 1)) (x :: (L.take i).reverse) else false) := by
        intro e
        induction e with
        | zero =>
          intro j hj
          refine Ev.step (fun _ => bandplanref30_Valid.l1.eq_2 ..) ?_
          simp only [if_neg (show ¬ (j : Int) < (i : Int) by omega)]
          rw [List.drop_eq_nil_of_le (by rw [List.length_take]; omega), wrap_s i (by omega)]
          exact hrec
        | succ e ih2 =>
          intro j hj
          have hs := ih2 (j + 1) (by omega)
          refine Ev.step (fun _ => bandplanref30_Valid.l1.eq_2 ..) ?_
          simp only [if_pos (show (j : Int) < (i : Int) by omega), if_pos (show (0 : Int) ≤ (j : Int) by omega), if_pos (show (j : Int) < (L.length : Int) by omega), if_pos (show (0 : Int) ≤ (i : Int) by omega), if_pos (show (i : Int) < (L.length : Int) by omega)]
          rw [rd_nat, rd_nat, hx, wrap_s j (by omega), contains_take_drop L i j hil (by omega) x]
          by_cases q : L.getD j 0 = x
          · simp only [if_pos q]
            rw [show (L.getD j 0 == x) = true by simpa using q]
            exact Ev.now _
          · simp only [if_neg q]
            rw [show (L.getD j 0 == x) = false by simpa using q, Bool.false_or]
            exact hs
      exact aux2 i 0 (by omega)
  exact aux L.length 0 (by omega)

theorem validFor_ev (s p : Int) (l : List Int) (h c : Int) (hl : l.length < 1000000000) : Ev (fun k => bandplanref30_ValidFor.f k s p l h c) (validForB s p l h c) := by
  unfold bandplanref30_ValidFor.f
  rw [named_eq s p l hl]
  simp only [Option.bind_some]
  have hL' : (p :: l).length < 4611686018427387904 := by simp; omega
  have aux : ∀ (L : List Int), L.length < 4611686018427387904 → ∀ d (i : Nat), i + d = L.length → Ev (fun k => bandplanref30_ValidFor.l0 k h c L (i : Int) s p l) (validB s p l && !((L.drop i).any (fun o => !allowB h c o))) := by
    intro L hL d
    induction d with
    | zero =>
      intro i hi
      refine Ev.step (fun _ => bandplanref30_ValidFor.l0.eq_2 ..) ?_
      simp only [if_neg (show ¬ (i : Int) < (L.length : Int) by omega)]
      rw [List.drop_eq_nil_of_le (by omega)]
      refine Ev.bind (valid_ev s p l) ?_
      simp only [List.any_nil, Bool.not_false, Bool.and_true]
      exact Ev.now _
    | succ d ih =>
      intro i hi
      have hs := ih (i + 1) (by omega)
      refine Ev.step (fun _ => bandplanref30_ValidFor.l0.eq_2 ..) ?_
      simp only [if_pos (show (i : Int) < (L.length : Int) by omega), if_pos (show (0 : Int) ≤ (i : Int) by omega), bandplanref30_Allowed.f, Option.bind_some]
      rw [rd_nat, wrap_s i (by omega), List.drop_eq_getElem_cons (by omega), getD_at L 0 i (by omega), List.any_cons]
      cases q : allowB h c (L.getD i 0) with
      | true => simp only [if_true, Bool.not_true, Bool.false_or]; exact hs
      | false => simp only [Bool.false_eq_true, if_false, Bool.not_false, Bool.true_or, Bool.not_true, Bool.and_false]; exact Ev.now _
  exact aux (p :: l) hL' _ 0 (Nat.zero_add _)

def pickR (c : Int) (fs : List Int) : List Int → Int
  | [] => c
  | o :: r => if o = c then o else if fs.contains o = true then o else pickR c fs r
theorem pickR_eq (c : Int) (fs : List Int) : ∀ L, pickL (c :: fs.reverse) c L = pickR c fs L
  | [] => rfl
  | o :: r => by
    unfold pickL pickR
    rw [pickR_eq c fs r, List.contains_cons]
    have e : fs.reverse.contains o = fs.contains o := by rw [Bool.eq_iff_iff]; simp
    rw [e]
    by_cases q : o = c
    · subst q; simp
    · rw [show (o == c) = false by simpa using q, Bool.false_or, if_neg q]
theorem choose_ev (s p : Int) (l : List Int) (h c : Int) (fs : List Int) (hl : l.length < 1000000000) (hf : fs.length < 1000000000) :
    Ev (fun k => bandplanref30_Choose.f k s p l h c fs) ((if chooseB s p l h c fs = true then pickB p l c fs else 0), (if chooseB s p l h c fs = true then 0 else 2)) := by
  unfold bandplanref30_Choose.f
  refine Ev.bind (validFor_ev s p l h c hl) ?_
  unfold chooseB
  cases hv : validForB s p l h c with
  | false => simp only [Bool.false_eq_true, if_false, Bool.false_and]; exact Ev.now _
  | true =>
    simp only [if_true, Bool.true_and]
    have aux1 : ∀ d (L : List Int), L.length < 4611686018427387904 → ∀ (i : Nat), i + d = L.length → Ev (fun k => bandplanref30_Choose.l1 k c fs L (i : Int)) (pickR c fs (L.drop i), 0) := by
      intro d L hL
      induction d with
      | zero =>
        intro i hi
        refine Ev.step (fun _ => bandplanref30_Choose.l1.eq_2 ..) ?_
        simp only [if_neg (show ¬ (i : Int) < (L.length : Int) by omega)]
        rw [List.drop_eq_nil_of_le (by omega)]
        exact Ev.now _
      | succ d ih =>
        intro i hi
        have hs := ih (i + 1) (by omega)
        refine Ev.step (fun _ => bandplanref30_Choose.l1.eq_2 ..) ?_
        simp only [if_pos (show (i : Int) < (L.length : Int) by omega), if_pos (show (0 : Int) ≤ (i : Int) by omega)]
        rw [rd_nat, wrap_s i (by omega), List.drop_eq_getElem_cons (by omega), getD_at L 0 i (by omega)]
        unfold pickR
        by_cases q : L.getD i 0 = c
        · simp only [if_pos q]; exact Ev.now _
        · simp only [if_neg q]
          refine Ev.bind (has_ev fs _ (by omega)) ?_
          cases hb : fs.contains (L.getD i 0) with
          | true => simp only [if_true]; exact Ev.now _
          | false => simp only [Bool.false_eq_true, if_false]; exact hs
    have aux0 : ∀ d (i : Nat), i + d = fs.length → Ev (fun k => bandplanref30_Choose.l0 k c fs (i : Int) s p l) ((if (fs.drop i).all inOpt = true then pickB p l c fs else 0), (if (fs.drop i).all inOpt = true then 0 else 2)) := by
      intro d
      induction d with
      | zero =>
        intro i hi
        refine Ev.step (fun _ => bandplanref30_Choose.l0.eq_2 ..) ?_
        simp only [if_neg (show ¬ (i : Int) < (fs.length : Int) by omega)]
        rw [List.drop_eq_nil_of_le (by omega), named_eq s p l hl]
        simp only [Option.bind_some, List.all_nil, if_true]
        unfold pickB
        rw [pickR_eq]
        exact aux1 _ (p :: l) (by simp; omega) 0 (Nat.zero_add _)
      | succ d ih =>
        intro i hi
        have hs := ih (i + 1) (by omega)
        refine Ev.step (fun _ => bandplanref30_Choose.l0.eq_2 ..) ?_
        simp only [if_pos (show (i : Int) < (fs.length : Int) by omega), if_pos (show (0 : Int) ≤ (i : Int) by omega)]
        rw [rd_nat, wrap_s i (by omega), List.drop_eq_getElem_cons (by omega), getD_at fs 0 i (by omega), List.all_cons]
        generalize fs.getD i 0 = x
        by_cases b1 : x < 0
        · rw [show inOpt x = false by unfold inOpt; rw [show decide (0 ≤ x) = false from decide_eq_false (by omega)]; rfl]
          simp only [if_pos b1, Bool.false_and, Bool.false_eq_true, if_false]
          exact Ev.now _
        by_cases b2 : x > 3
        · rw [show inOpt x = false by unfold inOpt; rw [show decide (x ≤ 3) = false from decide_eq_false (by omega)]; simp]
          simp only [if_neg b1, if_pos b2, Bool.false_and, Bool.false_eq_true, if_false]
          exact Ev.now _
        rw [show inOpt x = true by unfold inOpt; rw [show decide (0 ≤ x) = true from decide_eq_true (by omega), show decide (x ≤ 3) = true from decide_eq_true (by omega)]; rfl]
        simp only [if_neg b1, if_neg b2, Bool.true_and]
        exact hs
    exact aux0 _ 0 (Nat.zero_add _)
end Go.Proofs.Ytmmmhkeecaangaa.Q

import Derived.Test.YtmmmhkeecaangaaPob
namespace Go.Proofs.Ytmmmhkeecaangaa.Q
open Go.RowKit Go.Proofs.YtmmmhkeecaangaaW.PrintWords Go.Proofs.YtmmmhkeecaangaaW.PrintLast Go.Proofs.YtmmmhkeecaangaaW.PrintMore Go.Proofs.Ytmmmhkeecaangaa.Wire
set_option linter.unusedVariables false
set_option linter.unusedSimpArgs false

abbrev SB := S37
theorem rdT_nat (l : List SB) (i : Nat) : rd_T37 l (i : Int) = l.getD i z37 := by simp [rd_T37]
theorem wrap_p (i : Nat) (h : i < 4611686018427387904) : wrap64 (((i + 1 : Nat) : Int) - 1) = (i : Int) := by unfold wrap64; omega
theorem validBids_ev (l : List SB) (hl : l.length < 1000000000) : Ev (fun k => bandplanref30_ValidBids.f k l) (validBids (l.map toBid)) := by
  have aux : ∀ d (i : Nat), i + d = l.length → ∀ (f : Bool) (p : Int), (f = true ↔ i = 0) → (∀ j, i = j + 1 → p = (l.getD j z37).f0) → Ev (fun k => bandplanref30_ValidBids.l0 k l (i : Int)) (vbL f p ((l.drop i).map toBid)) := by
    intro d
    induction d with
    | zero =>
      intro i hi f p hf hp
      refine Ev.step (fun _ => bandplanref30_ValidBids.l0.eq_2 ..) ?_
      simp only [if_neg (show ¬ (i : Int) < (l.length : Int) by omega)]
      rw [List.drop_eq_nil_of_le (by omega)]
      exact Ev.now _
    | succ d ih =>
      intro i hi f p hf hp
      have hs := ih (i + 1) (by omega) false ((l.getD i z37).f0) (by simp) (fun j hj => by rw [show j = i by omega])
      refine Ev.step (fun _ => bandplanref30_ValidBids.l0.eq_2 ..) ?_
      simp only [if_pos (show (i : Int) < (l.length : Int) by omega), if_pos (show (0 : Int) ≤ (i : Int) by omega)]
      rw [rdT_nat, wrap_s i (by omega), List.drop_eq_getElem_cons (show i < l.length by omega), getD_at l z37 i (by omega), List.map_cons]
      generalize l.getD i z37 = x at hs
      show Ev _ (validB x.f0 x.f1 x.f2 && (f || decide (p < x.f0)) && vbL false x.f0 ((l.drop (i + 1)).map toBid))
      refine Ev.bind (valid_ev x.f0 x.f1 x.f2) ?_
      cases validB x.f0 x.f1 x.f2 with
      | false => simp only [Bool.false_eq_true, if_false, Bool.false_and]; exact Ev.now _
      | true =>
        simp only [if_true, Bool.true_and]
        cases i with
        | zero =>
          rw [hf.2 rfl, Bool.true_or, Bool.true_and]
          exact hs
        | succ j =>
          have hpj := hp j rfl
          rw [show f = false by cases f with | false => rfl | true => exact absurd (hf.1 rfl) (by omega), Bool.false_or]
          simp only [if_pos (show ((j + 1 : Nat) : Int) > 0 by omega)]
          rw [wrap_p j (by omega), rdT_nat, ← hpj]
          simp only [if_pos (show (0 : Int) ≤ (j : Int) by omega), if_pos (show (j : Int) < (l.length : Int) by omega)]
          by_cases q : x.f0 ≤ p
          · simp only [if_pos q]
            rw [show decide (p < x.f0) = false from decide_eq_false (by omega), Bool.false_and]
            exact Ev.now _
          · simp only [if_neg q]
            rw [show decide (p < x.f0) = true from decide_eq_true (by omega), Bool.true_and]
            exact hs
  exact aux _ 0 (Nat.zero_add _) true 0 (by simp) (fun j hj => by omega)

/-! Encode -/
theorem group_ev (n : Nat) (h : n < 1000000000000) : Ev (fun k => bandplanref30_Group.f k (n : Int)) (grp n) := by
  have aux : ∀ (n : Nat) (acc : List Int), n < 1000000000000 → acc.length + n < 100000000000000 → Ev (fun k => bandplanref30_Group.l0 k (n : Int) acc) (acc ++ grp n) := by
    intro n
    induction n using Nat.strongRecOn with
    | _ n ih =>
      intro acc hn ha
      refine Ev.step (fun _ => bandplanref30_Group.l0.eq_2 ..) ?_
      by_cases q : n < 128
      · simp only [if_neg (show ¬ (n : Int) ≥ 128 by omega), if_pos (show acc.length < 140737488355328 by omega)]
        rw [grp_small q, show (n : Int) % 256 = (n : Int) by omega]
        exact Ev.now _
      · simp only [if_pos (show (n : Int) ≥ 128 by omega), if_pos (show acc.length < 140737488355328 by omega)]
        rw [grp_big q, show wrap64 (Int.tdiv (n : Int) 128) = ((n / 128 : Nat) : Int) by rw [Int.tdiv_eq_ediv_of_nonneg (by omega)]; unfold wrap64; omega, show (wrap64 (Int.tmod (n : Int) 128 + 128)) % 256 = ((n % 128 + 128 : Nat) : Int) by rw [Int.tmod_eq_emod_of_nonneg (by omega)]; unfold wrap64; omega]
        have := ih (n / 128) (by omega) (acc ++ [((n % 128 + 128 : Nat) : Int)]) (by omega) (by simp; omega)
        rw [List.append_assoc, List.singleton_append] at this
        exact this
  have := aux n [] h (by simp; omega)
  rw [List.nil_append] at this
  exact this
theorem grp_len2 {n : Nat} (h : n < 16384) : (grp n).length ≤ 2 := by
  by_cases q : n < 128
  · rw [grp_small q]; simp
  · rw [grp_big q, grp_small (by omega)]; simp
def bidBytes (b : Bid) : List Int := grp b.f0.toNat ++ (grp b.f1.toNat ++ (grp b.f2.length ++ b.f2.flatMap (fun o => grp o.toNat)))
def encBytes (l : List Bid) : List Int := grp l.length ++ l.flatMap bidBytes
theorem stepU_ok (out : List Int) (n : Int) (h0 : 0 ≤ n) (h : out.length + (grp n.toNat).length ≤ 65536) : stepU (0, out) n = (0, out ++ grp n.toNat) := by
  unfold stepU uintE uintO putE putO
  simp only [if_neg (show ¬ n < 0 by omega), if_true, if_neg (show ¬ out.length + (grp n.toNat).length > 65536 by omega)]
theorem foldU_ok : ∀ (ns : List Int) (out : List Int), (∀ n ∈ ns, 0 ≤ n ∧ n < 16384) → out.length + 2 * ns.length ≤ 65536 → ns.foldl stepU (0, out) = (0, out ++ ns.flatMap (fun n => grp n.toNat))
  | [], out, _, _ => by simp
  | n :: r, out, hn, hl => by
    have h1 := hn n (by simp)
    have h2 := grp_len2 (n := n.toNat) (by omega)
    simp only [List.length_cons] at hl
    rw [List.foldl_cons, stepU_ok out n h1.1 (by omega), foldU_ok r _ (fun m hm => hn m (List.mem_cons_of_mem _ hm)) (by rw [List.length_append]; omega)]
    simp
theorem bidNums_facts {b : Bid} (h : validB b.f0 b.f1 b.f2 = true) : (∀ n ∈ bidNums b, 0 ≤ n ∧ n < 16384) ∧ (bidNums b).length ≤ 6 := by
  obtain ⟨⟨h0, h1⟩, h2, h3⟩ := validB_facts h
  constructor
  · intro n hn
    unfold bidNums at hn
    simp only [List.mem_cons] at hn
    rcases hn with rfl | rfl | rfl | hn
    · omega
    · have := h3 b.f1 (by simp); omega
    · omega
    · have := h3 n (List.mem_cons_of_mem _ hn); omega
  · unfold bidNums; simp; omega
theorem flat_len (l : List Bid) (h : ∀ b ∈ l, (bidNums b).length ≤ 6) : (l.flatMap bidNums).length ≤ 6 * l.length := by
  induction l with
  | nil => simp
  | cons b r ih =>
    rw [List.flatMap_cons, List.length_append, List.length_cons]
    have := h b (by simp)
    have := ih (fun c hc => h c (List.mem_cons_of_mem _ hc))
    omega
theorem encS_ok (l : List Bid) (hv : validBids l = true) (hl : l.length ≤ 5000) : encS l = (0, encBytes l) := by
  have hall := vbL_all l true 0 hv
  unfold encS
  have g := grp_len2 (n := l.length) (by omega)
  rw [stepU_ok [] (l.length : Int) (by omega) (by simp; omega), foldU_ok]
  · congr 1
    unfold encBytes
    rw [List.nil_append, show ((l.length : Int)).toNat = l.length by omega]
    congr 1
    clear hv hl g
    induction l with
    | nil => rfl
    | cons b r ih =>
      have e : (bidNums b).flatMap (fun n => grp n.toNat) = bidBytes b := by unfold bidBytes bidNums; simp
      rw [List.flatMap_cons, List.flatMap_cons, List.flatMap_append, ih (fun c hc => hall c (List.mem_cons_of_mem _ hc)), e]
  · intro n hn
    obtain ⟨b, hb, hnb⟩ := List.mem_flatMap.1 hn
    exact (bidNums_facts (hall b hb)).1 n hnb
  · have := flat_len l (fun b hb => (bidNums_facts (hall b hb)).2)
    rw [List.nil_append, show ((l.length : Int)).toNat = l.length by omega]
    omega
theorem groupI_ev (n : Int) (h0 : 0 ≤ n) (h : n < 1000000000000) : Ev (fun k => bandplanref30_Group.f k n) (grp n.toNat) := by
  have := group_ev n.toNat (by omega)
  rw [show ((n.toNat : Nat) : Int) = n by omega] at this
  exact this
theorem encode_ev (l : List SB) (hl : l.length ≤ 5000) : Ev (fun k => bandplanref30_Encode.f k l) ((if validBids (l.map toBid) = true then encBytes (l.map toBid) else []), (if validBids (l.map toBid) = true then 0 else 2)) := by
  unfold bandplanref30_Encode.f
  refine Ev.bind (validBids_ev l (by omega)) ?_
  cases hv : validBids (l.map toBid) with
  | false => simp only [Bool.false_eq_true, if_false]; exact Ev.now _
  | true =>
    simp only [if_true]
    have hall := vbL_all _ true 0 hv
    refine Ev.bind (group_ev l.length (by omega)) ?_
    have hb : ∀ x ∈ l, ((0 ≤ x.f0 ∧ x.f0 ≤ 511) ∧ x.f2.length ≤ 3 ∧ (0 ≤ x.f1 ∧ x.f1 ≤ 3)) ∧ ∀ o ∈ x.f2, 0 ≤ o ∧ o ≤ 3 := fun x hx => by
      have h := validB_facts (hall (toBid x) (List.mem_map_of_mem hx))
      exact ⟨⟨h.1, h.2.1, h.2.2 x.f1 (by simp [toBid])⟩, fun o ho => h.2.2 o (List.mem_cons_of_mem _ ho)⟩
    have aux1 : ∀ (i : Nat), i < l.length → ∀ (R : List Int × Int) (acc0 : List Int), (Ev (fun k => bandplanref30_Encode.l0 k l (acc0 ++ (l.getD i z37).f2.flatMap (fun o => grp o.toNat)) ((i + 1 : Nat) : Int)) R) → acc0.length ≤ 1000000 → ∀ d (j : Nat), j + d = (l.getD i z37).f2.length →
        Ev (fun k => bandplanref30_Encode.l1 k l (acc0 ++ ((l.getD i z37).f2.take j).flatMap (fun o => grp o.toNat)) (i : Int) (j : Int)) R := by
      intro i hi R acc0 hR ha d
      have hm : l.getD i z37 ∈ l := by rw [← getD_at l z37 i hi]; exact List.getElem_mem hi
      obtain ⟨⟨_, hx3, _⟩, hxo⟩ := hb _ hm
      generalize hx : l.getD i z37 = x at hR hx3 hxo
      induction d with
      | zero =>
        intro j hj
        refine Ev.step (fun _ => bandplanref30_Encode.l1.eq_2 ..) ?_
        rw [rdT_nat, hx]
        simp only [if_pos (show (0 : Int) ≤ (i : Int) by omega), if_pos (show (i : Int) < (l.length : Int) by omega), if_neg (show ¬ (j : Int) < (x.f2.length : Int) by omega)]
        rw [wrap_s i (by omega), List.take_of_length_le (by omega)]
        exact hR
      | succ d ih =>
        intro j hj
        have hs := ih (j + 1) (by omega)
        refine Ev.step (fun _ => bandplanref30_Encode.l1.eq_2 ..) ?_
        rw [rdT_nat, hx]
        simp only [if_pos (show (0 : Int) ≤ (i : Int) by omega), if_pos (show (i : Int) < (l.length : Int) by omega), if_pos (show (j : Int) < (x.f2.length : Int) by omega), if_pos (show (0 : Int) ≤ (j : Int) by omega)]
        rw [rd_nat, wrap_s j (by omega)]
        have hjm : x.f2.getD j 0 ∈ x.f2 := getD_memI (by omega)
        have ho := hxo _ hjm
        rw [List.take_add_one, List.getElem?_eq_getElem (show j < x.f2.length by omega), getD_at x.f2 0 j (by omega)] at hs
        refine Ev.bind (groupI_ev _ (by omega) (by omega)) ?_
        have hlen : ((x.f2.take j).flatMap (fun o => grp o.toNat)).length ≤ 2 * j := by
          have : ∀ (L : List Int), (∀ o ∈ L, 0 ≤ o ∧ o ≤ 3) → (L.flatMap (fun o => grp o.toNat)).length ≤ 2 * L.length := by
            intro L hL
            induction L with
            | nil => simp
            | cons a r ih2 =>
              rw [List.flatMap_cons, List.length_append, List.length_cons]
              have := ih2 (fun o ho => hL o (List.mem_cons_of_mem _ ho))
              have := grp_len2 (n := a.toNat) (by have := hL a (by simp); omega)
              omega
          have := this (x.f2.take j) (fun o ho => hxo o (List.mem_of_mem_take ho))
          rw [List.length_take] at this; omega
        have hg2 := grp_len2 (n := (x.f2.getD j 0).toNat) (by omega)
        simp only [if_pos (show (acc0 ++ (x.f2.take j).flatMap (fun o => grp o.toNat)).length + (grp (x.f2.getD j 0).toNat).length < 140737488355328 by rw [List.length_append]; omega)]
        rw [List.flatMap_append, ← List.append_assoc] at hs
        simpa using hs
    have aux0 : ∀ d (i : Nat), i + d = l.length → ∀ acc : List Int, acc.length ≤ 2 + 20 * i → Ev (fun k => bandplanref30_Encode.l0 k l acc (i : Int)) (acc ++ ((l.drop i).map toBid).flatMap bidBytes, 0) := by
      intro d
      induction d with
      | zero =>
        intro i hi acc ha
        refine Ev.step (fun _ => bandplanref30_Encode.l0.eq_2 ..) ?_
        simp only [if_neg (show ¬ (i : Int) < (l.length : Int) by omega)]
        rw [List.drop_eq_nil_of_le (by omega), List.map_nil, List.flatMap_nil, List.append_nil]
        exact Ev.now _
      | succ d ih =>
        intro i hi acc ha
        have hil : i < l.length := by omega
        have hm : l.getD i z37 ∈ l := by rw [← getD_at l z37 i hil]; exact List.getElem_mem hil
        obtain ⟨⟨hx0, hx3, hx1⟩, hxo⟩ := hb _ hm
        have h1 := aux1 i hil
        refine Ev.step (fun _ => bandplanref30_Encode.l0.eq_2 ..) ?_
        simp only [if_pos (show (i : Int) < (l.length : Int) by omega), if_pos (show (0 : Int) ≤ (i : Int) by omega)]
        rw [rdT_nat]
        have hd : (l.drop i).map toBid = toBid (l.getD i z37) :: (l.drop (i + 1)).map toBid := by rw [List.drop_eq_getElem_cons hil, getD_at l z37 i hil, List.map_cons]
        rw [hd, List.flatMap_cons]
        generalize l.getD i z37 = x at hx0 hx3 hx1 hxo h1
        have l0 := grp_len2 (n := x.f0.toNat) (by omega)
        have l1 := grp_len2 (n := x.f1.toNat) (by omega)
        have l2 := grp_len2 (n := x.f2.length) (by omega)
        refine Ev.bind (groupI_ev x.f0 (by omega) (by omega)) ?_
        simp only [if_pos (show acc.length + (grp x.f0.toNat).length < 140737488355328 by omega), Option.bind_some]
        refine Ev.bind (groupI_ev x.f1 (by omega) (by omega)) ?_
        simp only [if_pos (show (acc ++ grp x.f0.toNat).length + (grp x.f1.toNat).length < 140737488355328 by rw [List.length_append]; omega), Option.bind_some]
        refine Ev.bind (group_ev x.f2.length (by omega)) ?_
        simp only [if_pos (show (acc ++ grp x.f0.toNat ++ grp x.f1.toNat).length + (grp x.f2.length).length < 140737488355328 by rw [List.length_append, List.length_append]; omega)]
        have hfl : (x.f2.flatMap (fun o => grp o.toNat)).length ≤ 2 * x.f2.length := by
          have : ∀ (L : List Int), (∀ o ∈ L, 0 ≤ o ∧ o ≤ 3) → (L.flatMap (fun o => grp o.toNat)).length ≤ 2 * L.length := by
            intro L hL
            induction L with
            | nil => simp
            | cons a r ih2 =>
              rw [List.flatMap_cons, List.length_append, List.length_cons]
              have := ih2 (fun o ho => hL o (List.mem_cons_of_mem _ ho))
              have := grp_len2 (n := a.toNat) (by have := hL a (by simp); omega)
              omega
          exact this _ hxo
        have hn := ih (i + 1) (by omega) (acc ++ grp x.f0.toNat ++ grp x.f1.toNat ++ grp x.f2.length ++ x.f2.flatMap (fun o => grp o.toNat)) (by simp only [List.length_append]; omega)
        have hfin := h1 _ (acc ++ grp x.f0.toNat ++ grp x.f1.toNat ++ grp x.f2.length) hn (by simp only [List.length_append]; omega) x.f2.length 0 (by omega)
        simp only [List.take_zero, List.flatMap_nil, List.append_nil] at hfin
        have e : acc ++ (bidBytes (toBid x) ++ ((l.drop (i + 1)).map toBid).flatMap bidBytes) = acc ++ grp x.f0.toNat ++ grp x.f1.toNat ++ grp x.f2.length ++ x.f2.flatMap (fun o => grp o.toNat) ++ ((l.drop (i + 1)).map toBid).flatMap bidBytes := by
          unfold bidBytes toBid; simp
        rw [e]
        exact hfin
    have := aux0 _ 0 (Nat.zero_add _) (grp l.length) (by have := grp_len2 (n := l.length) (by omega); omega)
    rw [List.drop_zero] at this
    unfold encBytes
    rw [List.length_map]
    exact this
end Go.Proofs.Ytmmmhkeecaangaa.Q

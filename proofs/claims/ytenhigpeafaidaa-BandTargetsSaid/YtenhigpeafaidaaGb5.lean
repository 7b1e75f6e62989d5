/- Contracts of the functions that the statements reach, part 5: what each call answers and leaves. Conditions: those that each theorem states. -/
import Derived.Test.YtenhigpeafaidaaGb4
import Derived.Test.YtenhigpeafaidaaGb3
import Derived.Test.YtenhigpeafaidaaGb2
import Derived.Test.YtenhigpeafaidaaProg
import Derived.Below
import Derived.Deep.Draws
import Derived.Deep.AppendLies
import Derived.Maps.AppendAt
import Derived.OwnWalk
import Derived.Laws.BytesArg
import Derived.Laws.MakeOwn
import Derived.Laws.OwnMore
import Derived.Deep.OwnRows
import Derived.Tactics
import Derived.Lib.ConvBytes
import Derived.Laws.Slices
import Derived.WalkKit
import Derived.KernelRfl
import Derived.RowKit3
import Derived.Deep.LoopGhost
import Derived.Deep.QuietTactic
import Derived.BigQuiet
import Derived.WideLaws
import Derived.Deep.DeepCutAuto
import Derived.Deep.CutBlock
import Derived.Deep.RegionHeld3
import Derived.Laws.Rows
import Derived.Lib.AppendStr
import Derived.ArgAppend
import Derived.Laws.IdiomCopy
import Derived.OrdersHeld
import Derived.Laws.BitsLemmas
import Derived.RowKit
import Derived.Test.YtenhigpeafaidaaGb1
-- Pra
namespace Go.Proofs.Ytenhigpeafaidaa.T
open Go.RowKit Go.Proofs.YtenhigpeafaidaaW.PrintWords Go.Proofs.YtenhigpeafaidaaW.PrintLast Go.Proofs.YtenhigpeafaidaaW.PrintMore Go.Proofs.Ytenhigpeafaidaa.Wire Go.Proofs.Ytenhigpeafaidaa.Q
set_option linter.unusedVariables false
set_option linter.unusedSimpArgs false

abbrev SDm := S86
/-- The channels of a band under a target, or none. -/
def czB (n b : Int) : List Int := if erB b = 0 ∧ isTarget n = true then chansB b n else []
def domOf (n : Int) (x : SBn) : SDm := ⟨x.f0, x.f1.flatMap (czB n)⟩
def inP (S : Nat → Bool) (x : SPr) : Bool := hasB S x.f0 && hasB S x.f1
def inL (S : Nat → Bool) (x : SLd) : Bool := hasB S x.f0 && hasB S x.f1
def inC (S : Nat → Bool) (x : SCp) : Bool := hasB S x.f0
theorem has_f (S : Nat → Bool) (i : Int) : bitset_Set_Has.f (wdS S 0) (wdS S 1) (wdS S 2) (wdS S 3) (wdS S 4) (wdS S 5) (wdS S 6) (wdS S 7) i = some (hasB S i) := by
 unfold bitset_Set_Has.f
 rw [if_pos (okW_wd S), hasB_un]
theorem rdP_nat (l : List SPr) (i : Nat) : rd_T84 l (i : Int) = l.getD i z84 := by simp [rd_T84]
theorem rdL_nat (l : List SLd) (i : Nat) : rd_T97 l (i : Int) = l.getD i z97 := by simp [rd_T97]
theorem rdC_nat (l : List SCp) (i : Nat) : rd_T99 l (i : Int) = l.getD i z99 := by simp [rd_T99]
theorem rdB_nat (l : List SBn) (i : Nat) : rd_T78 l (i : Int) = l.getD i z78 := by simp [rd_T78]
theorem drop_at {α : Type} (l : List α) (z : α) (i : Nat) (h : i < l.length) : l.drop i = l.getD i z :: l.drop (i + 1) := by
 rw [List.drop_eq_getElem_cons h, getD_q l z i h]

theorem l4_ev (S : Nat → Bool) (xs : List SCp) (ds : List SDm) (ps : List SPr) (ls : List SLd) (hx : xs.length < 100000) : ∀ (d i : Nat) (acc : List SCp), i + d = xs.length → acc.length ≤ i →
  Ev (fun k => band_Problem.l4 k xs (xs.length : Int) (i : Int) (wdS S 0) (wdS S 1) (wdS S 2) (wdS S 3) (wdS S 4) (wdS S 5) (wdS S 6) (wdS S 7) ds ps ls acc) (ds, ps, ls, acc ++ (xs.drop i).filter (inC S), 0) := by
 intro d
 induction d with
 | zero =>
  intro i acc hi ha
  refine Ev.step (fun _ => band_Problem.l4.eq_2 ..) ?_
  simp only [if_neg (show ¬ (i : Int) < (xs.length : Int) by omega)]
  rw [List.drop_eq_nil_of_le (by omega), List.filter_nil, List.append_nil]
  exact Ev.now _
 | succ d ih =>
  intro i acc hi ha
  refine Ev.step (fun _ => band_Problem.l4.eq_2 ..) ?_
  simp only [if_pos (show (i : Int) < (xs.length : Int) by omega), if_pos (show (0 : Int) ≤ (i : Int) by omega), has_f, Option.bind_some, rdC_nat, wrap_s i (by omega)]
  rw [drop_at xs z99 i (by omega)]
  generalize xs.getD i z99 = x
  cases h : hasB S x.f0 with
  | true =>
   simp only [if_true, if_pos (show acc.length < 4398046511104 by omega)]
   rw [List.filter_cons_of_pos (by unfold inC; exact h)]
   have hq := ih (i + 1) (acc ++ [x]) (by omega) (by simp; omega)
   rw [List.append_assoc] at hq
   exact hq
  | false =>
   simp only [Bool.false_eq_true, if_false]
   rw [List.filter_cons_of_neg (by unfold inC; rw [h]; decide)]
   exact ih (i + 1) acc (by omega) (by omega)
theorem l3_ev (S : Nat → Bool) (xs : List SLd) (p0 : List SPr) (l0 : List SLd) (cs : List SCp) (ds : List SDm) (ps : List SPr) (hx : xs.length < 100000) (hc : cs.length < 100000) : ∀ (d i : Nat) (acc : List SLd), i + d = xs.length → acc.length ≤ i →
  Ev (fun k => band_Problem.l3 k xs (xs.length : Int) (i : Int) p0 l0 cs (wdS S 0) (wdS S 1) (wdS S 2) (wdS S 3) (wdS S 4) (wdS S 5) (wdS S 6) (wdS S 7) ds ps acc) (ds, ps, acc ++ (xs.drop i).filter (inL S), cs.filter (inC S), 0) := by
 intro d
 induction d with
 | zero =>
  intro i acc hi ha
  refine Ev.step (fun _ => band_Problem.l3.eq_2 ..) ?_
  simp only [if_neg (show ¬ (i : Int) < (xs.length : Int) by omega)]
  rw [List.drop_eq_nil_of_le (by omega), List.filter_nil, List.append_nil]
  exact l4_ev S cs ds ps acc hc cs.length 0 [] (by omega) (by simp)
 | succ d ih =>
  intro i acc hi ha
  refine Ev.step (fun _ => band_Problem.l3.eq_2 ..) ?_
  simp only [if_pos (show (i : Int) < (xs.length : Int) by omega), if_pos (show (0 : Int) ≤ (i : Int) by omega), has_f, Option.bind_some, rdL_nat, wrap_s i (by omega)]
  rw [drop_at xs z97 i (by omega)]
  generalize xs.getD i z97 = x
  cases h : hasB S x.f0 with
  | true =>
   simp only [if_true]
   cases h2 : hasB S x.f1 with
   | true =>
    simp only [if_true, if_pos (show acc.length < 3518437208883 by omega)]
    rw [List.filter_cons_of_pos (by unfold inL; rw [h, h2]; rfl)]
    have hq := ih (i + 1) (acc ++ [x]) (by omega) (by simp; omega)
    rw [List.append_assoc] at hq
    exact hq
   | false =>
    simp only [Bool.false_eq_true, if_false]
    rw [List.filter_cons_of_neg (by unfold inL; rw [h, h2]; decide)]
    exact ih (i + 1) acc (by omega) (by omega)
  | false =>
   simp only [Bool.false_eq_true, if_false]
   rw [List.filter_cons_of_neg (by unfold inL; rw [h]; simp)]
   exact ih (i + 1) acc (by omega) (by omega)
theorem l2_ev (S : Nat → Bool) (xs : List SPr) (p0 : List SPr) (ls : List SLd) (cs : List SCp) (ds : List SDm) (hx : xs.length < 100000) (hl : ls.length < 100000) (hc : cs.length < 100000) : ∀ (d i : Nat) (acc : List SPr), i + d = xs.length → acc.length ≤ i →
  Ev (fun k => band_Problem.l2 k xs (xs.length : Int) (i : Int) p0 ls cs (wdS S 0) (wdS S 1) (wdS S 2) (wdS S 3) (wdS S 4) (wdS S 5) (wdS S 6) (wdS S 7) ds acc) (ds, acc ++ (xs.drop i).filter (inP S), ls.filter (inL S), cs.filter (inC S), 0) := by
 intro d
 induction d with
 | zero =>
  intro i acc hi ha
  refine Ev.step (fun _ => band_Problem.l2.eq_2 ..) ?_
  simp only [if_neg (show ¬ (i : Int) < (xs.length : Int) by omega)]
  rw [List.drop_eq_nil_of_le (by omega), List.filter_nil, List.append_nil]
  exact l3_ev S ls p0 ls cs ds acc hl hc ls.length 0 [] (by omega) (by simp)
 | succ d ih =>
  intro i acc hi ha
  refine Ev.step (fun _ => band_Problem.l2.eq_2 ..) ?_
  simp only [if_pos (show (i : Int) < (xs.length : Int) by omega), if_pos (show (0 : Int) ≤ (i : Int) by omega), has_f, Option.bind_some, rdP_nat, wrap_s i (by omega)]
  rw [drop_at xs z84 i (by omega)]
  generalize xs.getD i z84 = x
  cases h : hasB S x.f0 with
  | true =>
   simp only [if_true]
   cases h2 : hasB S x.f1 with
   | true =>
    simp only [if_true, if_pos (show acc.length < 3518437208883 by omega)]
    rw [List.filter_cons_of_pos (by unfold inP; rw [h, h2]; rfl)]
    have hq := ih (i + 1) (acc ++ [x]) (by omega) (by simp; omega)
    rw [List.append_assoc] at hq
    exact hq
   | false =>
    simp only [Bool.false_eq_true, if_false]
    rw [List.filter_cons_of_neg (by unfold inP; rw [h, h2]; decide)]
    exact ih (i + 1) acc (by omega) (by omega)
  | false =>
   simp only [Bool.false_eq_true, if_false]
   rw [List.filter_cons_of_neg (by unfold inP; rw [h]; simp)]
   exact ih (i + 1) acc (by omega) (by omega)
theorem czB_len (n b : Int) : (czB n b).length ≤ 50 := by
 unfold czB
 split
 ·
  rename_i h
  have hb : 1 ≤ b ∧ b ≤ 3 := by
   have := h.1
   unfold erB at this
   split at this
   ·
    assumption
   ·
    exact absurd this (by decide)
  have h1 := List.length_filter_le (leftB n) (rangeI (loB b) (hiB b))
  rw [rangeI_len] at h1
  have := band_bounds hb
  unfold chansB
  omega
 ·
  simp
theorem ch_f (n b : Int) (h : -9223372036854775808 ≤ n ∧ n ≤ 9223372036854775807) : band_Channels.f b n = some (czB n b, if erB b = 0 ∧ isTarget n = true then 0 else 2) := by
 unfold band_Channels.f
 rw [if_pos h]; rfl
theorem l1_ev (S : Nat → Bool) (l : List SBn) (ii : Int) (bs : List Int) (ps : List SPr) (ls : List SLd) (cs : List SCp) (n : Int) (hn : -9223372036854775808 ≤ n ∧ n ≤ 9223372036854775807) (ds : List SDm) (st : Int) (hb : bs.length < 100000) (hd : ds.length < 4398046511104)
  (R : List SDm × List SPr × List SLd × List SCp × Int) : ∀ (d j : Nat) (acc : List Int), j + d = bs.length → acc.length ≤ 50 * j →
  Ev (fun k => band_Problem.l0 k l (l.length : Int) (wrap64 (ii + 1)) ps ls cs n (wdS S 0) (wdS S 1) (wdS S 2) (wdS S 3) (wdS S 4) (wdS S 5) (wdS S 6) (wdS S 7) (ds ++ [⟨st, acc ++ (bs.drop j).flatMap (czB n)⟩])) R →
  Ev (fun k => band_Problem.l1 k l (l.length : Int) ii bs (bs.length : Int) (j : Int) ps ls cs n (wdS S 0) (wdS S 1) (wdS S 2) (wdS S 3) (wdS S 4) (wdS S 5) (wdS S 6) (wdS S 7) ds st acc) R := by
 intro d
 induction d with
 | zero =>
  intro j acc hj ha hk
  refine Ev.step (fun _ => band_Problem.l1.eq_2 ..) ?_
  simp only [if_neg (show ¬ (j : Int) < (bs.length : Int) by omega), if_pos hd]
  rw [List.drop_eq_nil_of_le (by omega), List.flatMap_nil, List.append_nil] at hk
  exact hk
 | succ d ih =>
  intro j acc hj ha hk
  refine Ev.step (fun _ => band_Problem.l1.eq_2 ..) ?_
  have hl := czB_len n (bs.getD j 0)
  simp only [if_pos (show (j : Int) < (bs.length : Int) by omega), if_pos (show (0 : Int) ≤ (j : Int) by omega), ch_f n _ hn, Option.bind_some, rd_nat, wrap_s j (by omega), if_pos (show acc.length + (czB n (bs.getD j 0)).length < 17592186044416 by omega)]
  rw [drop_at bs 0 j (by omega), List.flatMap_cons, ← List.append_assoc] at hk
  exact ih (j + 1) _ (by omega) (by rw [List.length_append]; omega) hk
theorem bndB_len : ∀ (bs : List Int) (p : Int), 0 ≤ p → p ≤ 3 → bndB p bs = true → (bs.length : Int) ≤ 3 - p
 | [], p, h0, h1, _ => by simp; omega
 | b :: r, p, h0, h1, h => by
  unfold bndB at h
  simp only [Bool.and_eq_true, decide_eq_true_eq] at h
  have := bndB_len r b (by omega) (by omega) h.2.2
  simp; omega
theorem vbB_all : ∀ (l : List SBn) (p : Option Int), vbB p l = true → ∀ x ∈ l, bndB 0 x.f1 = true
 | [], _, _, x, hx => by cases hx
 | y :: r, p, h, x, hx => by
  unfold vbB at h
  simp only [Bool.and_eq_true] at h
  cases hx with
  | head => exact h.2.2.1
  | tail _ hm => exact vbB_all r _ h.2.2.2.2 x hm
theorem l0_ev (S : Nat → Bool) (l : List SBn) (ps : List SPr) (ls : List SLd) (cs : List SCp) (n : Int) (hn : -9223372036854775808 ≤ n ∧ n ≤ 9223372036854775807) (hl : l.length ≤ 1000000) (hp : ps.length < 100000) (hs : ls.length < 100000) (hc : cs.length < 100000) (hv : ∀ x ∈ l, bndB 0 x.f1 = true) : ∀ (d i : Nat) (ds : List SDm), i + d = l.length → ds.length ≤ i →
  Ev (fun k => band_Problem.l0 k l (l.length : Int) (i : Int) ps ls cs n (wdS S 0) (wdS S 1) (wdS S 2) (wdS S 3) (wdS S 4) (wdS S 5) (wdS S 6) (wdS S 7) ds) (ds ++ (l.drop i).map (domOf n), ps.filter (inP S), ls.filter (inL S), cs.filter (inC S), 0) := by
 intro d
 induction d with
 | zero =>
  intro i ds hi ha
  refine Ev.step (fun _ => band_Problem.l0.eq_2 ..) ?_
  simp only [if_neg (show ¬ (i : Int) < (l.length : Int) by omega)]
  rw [List.drop_eq_nil_of_le (by omega), List.map_nil, List.append_nil]
  exact l2_ev S ps ps ls cs ds hp hs hc ps.length 0 [] (by omega) (by simp)
 | succ d ih =>
  intro i ds hi ha
  refine Ev.step (fun _ => band_Problem.l0.eq_2 ..) ?_
  have hx : bndB 0 (l.getD i z78).f1 = true := by
   refine hv _ ?_
   rw [← getD_q l z78 i (by omega)]
   exact List.getElem_mem _
  simp only [if_pos (show (i : Int) < (l.length : Int) by omega), if_pos (show (0 : Int) ≤ (i : Int) by omega), rdB_nat]
  rw [drop_at l z78 i (by omega)]
  generalize l.getD i z78 = x at hx
  have hb := bndB_len x.f1 0 (by decide) (by decide) hx
  refine l1_ev S l (i : Int) x.f1 ps ls cs n hn ds x.f0 (by omega) (by omega) _ x.f1.length 0 [] (by omega) (by simp) ?_
  rw [wrap_s i (by omega), List.map_cons]
  have hq := ih (i + 1) (ds ++ [domOf n x]) (by omega) (by simp; omega)
  rw [List.append_assoc] at hq
  exact hq
theorem problem_ev (l : List SBn) (ps : List SPr) (ls : List SLd) (cs : List SCp) (n : Int) (hn : -9223372036854775808 ≤ n ∧ n ≤ 9223372036854775807) (hl : l.length ≤ 1000000) (hv : vbB none l = true) :
  Ev (fun k => band_Problem.f k l ps ls cs n) (if rulesB ps ls cs = true ∧ isTarget n = true then (l.map (domOf n), ps.filter (inP (stS l)), ls.filter (inL (stS l)), cs.filter (inC (stS l)), 0) else ([], [], [], [], 2)) := by
 unfold band_Problem.f band_valid.f problem_ValidRules.f band_Valid.f
 rw [if_pos hn, if_pos ⟨hv, by omega⟩]
 simp only [Option.bind_some, if_true]
 generalize hS : stS l = S
 cases hr : rulesB ps ls cs with
 | false =>
  simp only [Bool.false_eq_true, if_false, false_and]
  refine Ev.step (fun _ => band_Problem.j0.eq_2 ..) ?_
  simp only [if_true]
  exact Ev.now _
 | true =>
  simp only [if_true, true_and]
  refine Ev.step (fun _ => band_Problem.j0.eq_2 ..) ?_
  cases ht : isTarget n with
  | false => simp only [Bool.not_false, if_true, Bool.false_eq_true, if_false]; exact Ev.now _
  | true =>
   simp only [Bool.not_true, Bool.false_eq_true, if_false, if_true]
   have h4 : ps.length ≤ 4096 ∧ ls.length ≤ 1024 ∧ cs.length ≤ 1024 := by
    unfold rulesB at hr
    simp only [Bool.and_eq_true, decide_eq_true_eq] at hr
    exact ⟨hr.1, hr.2.1, hr.2.2.1⟩
   exact l0_ev S l ps ls cs n hn hl (by omega) (by omega) (by omega) (vbB_all l none hv) l.length 0 [] (by omega) (by simp)
end Go.Proofs.Ytenhigpeafaidaa.T
-- Pr
namespace Go.Proofs.Ytenhigpeafaidaa.T
open Go.RowKit Go.Proofs.YtenhigpeafaidaaW.PrintWords Go.Proofs.YtenhigpeafaidaaW.PrintLast Go.Proofs.YtenhigpeafaidaaW.PrintMore Go.Proofs.Ytenhigpeafaidaa.Wire Go.Proofs.Ytenhigpeafaidaa.Q
set_option linter.unusedVariables false
set_option linter.unusedSimpArgs false

end Go.Proofs.Ytenhigpeafaidaa.T
-- Qx14
-- Printed by a program of this session's over the kit's printer, with functions given from outside. Lean checks it.
namespace Go.Proofs.Ytenhigpeafaidaa.Q
open Go.RowKit Go.Proofs.YtenhigpeafaidaaW.PrintWords Go.Proofs.YtenhigpeafaidaaW.PrintLast Go.Proofs.YtenhigpeafaidaaW.PrintMore
attribute [local go_sem] max2_int min2_int max_two min_two max_three min_three max_four min_four   -- for this text's walks alone
set_option linter.unusedVariables false
set_option linter.unusedSimpArgs false

/-! ### bandplanlaw26_to: function 14 -/
def bandplanlaw26_to.f (a0 : Int) : Option (Int) := some a0
set_option maxHeartbeats 8000000 in
set_option maxRecDepth 100000 in
theorem bandplanlaw26_to.calls (a0 : Int) (r : Int) (w : World) (h : bandplanlaw26_to.f a0 = some r) :
  Calls Try.prog 14 #[.int .i64 a0] w fun e w' => e = .returned (.agg #[.int .i64 r]) ∧ Below w.heap.size w w' := by
 have hu34 := Try.underlying34
 have HB := Aside0.mk (Below.refl w.heap.size w)
 have H : (some a0) = some r := h
 clear h
 obtain rfl := Option.some.inj H
 go_enter Try.func14, Try.ntmps14
 go_wp2_with (first | ((with_reducible refine gate_dst (N := 2) rfl ?_); refine box_event ?hg (N := 2) ?hd (cs := #[.int .i64 0]) (t := 34) ?hr ?_; (case hd => rfl); (case hg => rfl); (case hr => first | (go_simp; done) | (go_simp; rfl)); intro gb131 hg w2 hbox hb; have n0_ := Aside0.mk (below_step (by repeat (first | (with_reducible first | exact HB.out | apply below_alloc | apply pw_below_drewN | apply below_drew1) | exact HB.out)) hb); have n1_ := Aside0.mk (hbox); have n2_ := Aside0.mk ((by rw [hg]; exact (below_size (by repeat (first | (with_reducible first | exact HB.out | apply below_alloc | apply pw_below_drewN | apply below_drew1) | exact HB.out))) : w.heap.size ≤ gb131)); have n3_ := Aside0.mk ((by rw [hg]; exact (below_size (by repeat (first | (with_reducible first | exact HB.out | apply below_alloc | apply pw_below_drewN | apply below_drew1) | exact HB.out))) : w.heap.size ≤ gb131)); clear HB; have HB := n0_; have BK131 := n1_; have GW131 := n2_; have GE131 := n3_; clear n0_ n1_ n2_ n3_; clear hb hbox hg; have hcz3_0 : w2.cell? ⟨gb131, 0, none⟩ = some (.int .i64 0) := (blk_cell BK131.out 0).trans rfl; have hfz3_0 := blk_frozen BK131.out 0))
 refine bodyPost_ret (results_cell_row rfl _ _ gb131 34 #[.int .i64 a0] (0, 0) _ rfl (by (with_reducible repeat (first | refine blk_drewN ?_ _ | refine blk_drew ?_ | refine blk_alloc ?_ _)); refine blk_put (cs := #[.int .i64 0]) ?_ 0 _ rfl; (with_reducible repeat (first | refine blk_drewN ?_ _ | refine blk_drew ?_ | refine blk_alloc ?_ _)); exact BK131.out) Try.underlying34 rfl (by kernel_rfl)) rfl ?_
 exact ⟨by first | rfl | (simp [errW_none, errW_some] <;> rfl) | (simp [*, errW_none, errW_some] <;> rfl), by repeat (first | (with_reducible first | exact HB.out | apply below_alloc | apply pw_below_drewN | apply below_drew1 | refine below_set ?_ GE131.out) | exact HB.out)⟩

end Go.Proofs.Ytenhigpeafaidaa.Q
-- Kn
namespace Go.Proofs.Ytenhigpeafaidaa.T
open Go.RowKit Go.Maps Go.Proofs.YtenhigpeafaidaaW.PrintWords Go.Proofs.YtenhigpeafaidaaW.PrintLast Go.Proofs.YtenhigpeafaidaaW.PrintMore Go.Proofs.Ytenhigpeafaidaa.Wire Go.Proofs.Ytenhigpeafaidaa.Q
set_option linter.unusedVariables false
set_option linter.unusedSimpArgs false

theorem to_c (w W : World) (n : Int) (hB : Below w.heap.size w W) : Calls Try.prog 14 #[.int .i64 n] W (fun r w' => r = .returned (.agg #[.int .i64 n]) ∧ Below w.heap.size w w' ∧ Kept W w' (fun _ => False)) :=
 (bandplanlaw26_to.calls n n W rfl).mono (fun r w' h => ⟨h.1, below_step hB h.2, Kept.of_below h.2 _⟩)
theorem k_blocks (w W : World) (n v e : Int) (h : -1000 ≤ n ∧ n ≤ 1000 ∧ (if isTarget n = true then blk 11 n else 0) = v ∧ (if isTarget n = true then 0 else 2) = e) (hB : Below w.heap.size w W) : Calls Try.prog 26 #[.agg #[.int .i64 n]] W (fun r w' => r = .returned (.tuple #[.int .i64 v, .int .i64 e]) ∧ Below w.heap.size w w' ∧ Kept W w' (fun _ => False)) :=
 (blocks_calls w W n (by omega) (by omega) hB).mono (fun r w' hP => ⟨by rw [← h.2.2.1, ← h.2.2.2]; exact hP.1, hP.2⟩)
theorem k_next (w W : World) (n v e : Int) (h : nextV n = v ∧ nextE n = e) (hB : Below w.heap.size w W) : Calls Try.prog 27 #[.agg #[.int .i64 n]] W (fun r w' => r = .returned (.tuple #[.agg #[.int .i64 v], .int .i64 e]) ∧ Below w.heap.size w w' ∧ Kept W w' (fun _ => False)) := by
 refine (next_calls W W n (Below.refl _ _)).mono ?_
 rintro r w' ⟨rfl, hB'⟩
 exact ⟨by rw [h.1, h.2], below_step hB hB', Kept.of_below hB' _⟩
def KChan (w W : World) (l : List Int) (e : Int) (r : Ending) (w' : World) : Prop := ∃ A c, r = .returned (.tuple #[.slice A l.length c, .int .i64 e]) ∧ (Kd.int .i64).C w' A l.length l ∧ Below w.heap.size w w' ∧ Kept W w' (fun _ => False)
theorem k_chan (w W : World) (b n e : Int) (l : List Int) (h : -1000 ≤ n ∧ n ≤ 1000 ∧ (if erB b = 0 ∧ isTarget n = true then chansB b n else []) = l ∧ (if erB b = 0 ∧ isTarget n = true then 0 else 2) = e) (hB : Below w.heap.size w W) : Calls Try.prog 13 #[.int .i64 b, .agg #[.int .i64 n]] W (KChan w W l e) := by
 refine (channels_calls w W b n (by omega) (by omega) hB).mono ?_
 rintro r w' ⟨v, rfl, hR, hB', hK⟩
 rw [h.2.2.1] at hR
 obtain ⟨A, c, rfl, _, hC⟩ := Kd.R_reads hR
 exact ⟨A, c, by rw [h.2.2.2], hC, hB', hK⟩
def KPro (w W : World) (ds : List SDm) (r : Ending) (w' : World) : Prop := ∃ (A0 A1 A2 A3 : Option Addr) (c0 c1 c2 c3 n2 n3 : Nat), r = .returned (.tuple #[.agg #[.slice A0 1 c0, .slice A1 0 c1, .slice A2 n2 c2, .slice A3 n3 c3], .int .i64 0]) ∧ Kd.C k86 w' A0 1 ds ∧ Below w.heap.size w w' ∧ Kept W w' (fun _ => False)
def kl : List SBn := [⟨4, [1, 3]⟩]
def kp : List SPr := [⟨4, 5, 0, 14, 51⟩]
theorem k_pro (w W : World) (A : Option Addr) (c : Nat) (A1 : Option Addr) (c1 : Nat) (hB : Below w.heap.size w W) (hC : Kd.C k78 W A 1 kl) (hc : 1 ≤ c) (h1 : Kd.C k84 W A1 1 kp) (hc1 : 1 ≤ c1) :
  Calls Try.prog 20 #[.slice A 1 c, .agg #[.slice A1 1 c1, .slice none 0 0, .slice none 0 0], .agg #[.int .i64 24]] W (KPro w W (kl.map (domOf 24))) := by
 obtain ⟨k, hk⟩ := (problem_ev kl kp [] [] 24 (by decide) (by decide) (by decide)).rounds
 rw [if_pos (by decide)] at hk
 refine (band_Problem.calls k A c kl A1 c1 kp none 0 [] none 0 [] 24 _ _ _ _ _ W hC hc h1 hc1 (Kd.C_nil _ _) (Nat.le_refl _) (Kd.C_nil _ _) (Nat.le_refl _) hk).mono ?_
 rintro r w' ⟨v0, v1, v2, v3, rfl, hS, hR1, hR2, hR3, hB'⟩
 obtain ⟨A0, c0, rfl, _, hC0⟩ := Kd.S_reads hS
 obtain ⟨A1', c1', rfl, _, _⟩ := Kd.R_reads hR1
 obtain ⟨A2', c2', rfl, _, _⟩ := Kd.R_reads hR2
 obtain ⟨A3', c3', rfl, _, _⟩ := Kd.R_reads hR3
 rw [show (kp.filter (inP (stS kl))).length = 0 by decide, show (kl.map (domOf 24)).length = 1 by decide]
 rw [show (kl.map (domOf 24)).length = 1 by decide] at hC0
 exact ⟨_, _, _, _, _, _, _, _, _, _, rfl, hC0, below_step hB hB', Kept.of_below hB' _⟩

theorem C_one {α : Type} {d : Kd α} {w : World} {g t : Nat} {x : α} {cs : Array Value} {fr : Nat × Nat} (h : w.heap[g]? = some (.cells cs t fr)) (hn : cs.toList.length = d.sz) (hK : d.K w x cs.toList) : Kd.C d w (some ⟨g, 0, none⟩) 1 [x] := by
 refine ⟨rfl, (by decide), fun _ => ⟨_, rfl, fun j p hj => ?_⟩⟩
 cases j with
 | succ n => simp at hj
 | zero =>
  have hx : x = p := by simpa using hj
  subst hx
  refine ⟨cs.toList, hn, hK, fun i u hi => ?_⟩
  have e : (Addr.mk g 0 none).add (0 * d.sz + i) = ⟨g, i, none⟩ := by
   unfold Addr.add
   split <;> simp_all
  rw [e]
  simp only [World.cell?, h]
  simpa using hi
theorem lit_world (w : World) : Kd.C k78 (((w.alloc (.cells #[.int .i64 1, .int .i64 3] 3)).alloc (.cells #[.int .i64 4, .slice (some ⟨w.heap.size, 0, none⟩) 2 2] 78)).alloc (.cells #[.int .i64 4, .int .i64 5, .int .i64 0, .int .i64 14, .int .i64 51] 84)) (some ⟨w.heap.size + 1, 0, none⟩) 1 kl ∧
  Kd.C k84 (((w.alloc (.cells #[.int .i64 1, .int .i64 3] 3)).alloc (.cells #[.int .i64 4, .slice (some ⟨w.heap.size, 0, none⟩) 2 2] 78)).alloc (.cells #[.int .i64 4, .int .i64 5, .int .i64 0, .int .i64 14, .int .i64 51] 84)) (some ⟨w.heap.size + 1 + 1, 0, none⟩) 1 kp := by
 have h1 := blk_new w (.cells #[.int .i64 1, .int .i64 3] 3)
 have h2 := blk_new (w.alloc (.cells #[.int .i64 1, .int .i64 3] 3)) (.cells #[.int .i64 4, .slice (some ⟨w.heap.size, 0, none⟩) 2 2] 78)
 have h3 := blk_new ((w.alloc (.cells #[.int .i64 1, .int .i64 3] 3)).alloc (.cells #[.int .i64 4, .slice (some ⟨w.heap.size, 0, none⟩) 2 2] 78)) (.cells #[.int .i64 4, .int .i64 5, .int .i64 0, .int .i64 14, .int .i64 51] 84)
 rw [show (w.alloc (.cells #[.int .i64 1, .int .i64 3] 3)).heap.size = w.heap.size + 1 by simp] at h2
 rw [show ((w.alloc (.cells #[.int .i64 1, .int .i64 3] 3)).alloc (.cells #[.int .i64 4, .slice (some ⟨w.heap.size, 0, none⟩) 2 2] 78)).heap.size = w.heap.size + 1 + 1 by simp] at h3
 refine ⟨C_one (blk_alloc h2 _) rfl ?_, C_one h3 rfl ⟨[.int .i64 4], _, rfl, rfl, [.int .i64 5], _, rfl, rfl, [.int .i64 0], _, rfl, rfl, [.int .i64 14], _, rfl, rfl, rfl⟩⟩
 exact k78_mk _ ⟨4, [1, 3]⟩ (c1 := 2) (by decide) (C_blk (blk_alloc (blk_alloc h1 _) _) [1, 3] rfl (by decide))

set_option maxHeartbeats 8000000 in
set_option maxRecDepth 100000 in
theorem known_calls (w : World) : Calls Try.prog 12 #[] w (fun r w' => r = .returned (.bool true) ∧ Below w.heap.size w w') := by
 go_enter Try.func12, Try.ntmps12
 go_wp2_with fail
 refine (range_calls w _ 3 (Below.refl _ _)).mono ?_
 rintro r w1 ⟨rfl, hB1, _⟩
 rw [show loB 3 = 14 by decide, show hiB 3 = 51 by decide, show erB 3 = 0 by decide]
 have HB1 := Lib.hid hB1
 clear hB1
 go_wp2_with fail
 refine (range_calls w _ 0 HB1.out).mono ?_
 rintro r w2 ⟨rfl, hB2, _⟩
 rw [show loB 0 = 0 by decide, show hiB 0 = 0 by decide, show erB 0 = 2 by decide]
 have HB2 := Lib.hid hB2
 clear hB2 HB1
 go_wp2_with fail
 refine (bandOf_calls w _ 13 HB2.out).mono ?_
 rintro r w3 ⟨rfl, hB3, _⟩
 rw [show ofB 13 = 2 by decide, if_neg (show ¬ (2 : Int) = 0 by decide)]
 have HB3 := Lib.hid hB3
 clear hB3 HB2
 go_wp2_with fail
 refine (bandOf_calls w _ 52 HB3.out).mono ?_
 rintro r w4 ⟨rfl, hB4, _⟩
 rw [show ofB 52 = 0 by decide, if_pos (show (0 : Int) = 0 by decide)]
 have HB4 := Lib.hid hB4
 clear hB4 HB3
 go_wp2_with fail
 refine (to_c w _ 14 HB4.out).mono ?_
 rintro r w5 ⟨rfl, hB5, _⟩
 have HB5 := Lib.hid hB5
 clear hB5 HB4
 go_wp2_with fail
 refine (k_blocks w _ 14 7 0 (by decide) HB5.out).mono ?_
 rintro r w6 ⟨rfl, hB6, _⟩
 have HB6 := Lib.hid hB6
 clear hB6 HB5
 go_wp2_with fail
 refine (to_c w _ 14 HB6.out).mono ?_
 rintro r w7 ⟨rfl, hB7, _⟩
 have HB7 := Lib.hid hB7
 clear hB7 HB6
 go_wp2_with fail
 refine (k_next w _ 14 13 0 (by decide) HB7.out).mono ?_
 rintro r w8 ⟨rfl, hB8, _⟩
 have HB8 := Lib.hid (below_alloc' hB8 (.cells #[.int .i64 13] 34))
 have HG8 := Lib.hid (blk_new w8 (.cells #[.int .i64 13] 34))
 clear hB8 HB7
 go_wp2_with fail
 refine (to_c w _ 7 HB8.out).mono ?_
 rintro r w9 ⟨rfl, hB9, hK9⟩
 have HB9 := Lib.hid hB9
 have HG9 := Lib.hid (blk_kept HG8.out hK9 id)
 clear hB9 hK9 HB8 HG8
 generalize w8.heap.size = gx at HG9 ⊢
 go_wp2_with fail
 refine (k_next w _ 7 0 9 (by decide) HB9.out).mono ?_
 rintro r w10 ⟨rfl, hB10, hK10⟩
 have HB10 := Lib.hid hB10
 have HG10 := Lib.hid (blk_kept HG9.out hK10 id)
 clear hB10 hK10 HB9 HG9
 go_wp2_with fail
 refine (to_c w _ 15 HB10.out).mono ?_
 rintro r w11 ⟨rfl, hB11, hK11⟩
 have HB11 := Lib.hid hB11
 have HG11 := Lib.hid (blk_kept HG10.out hK11 id)
 clear hB11 hK11 HB10 HG10
 go_wp2_with fail
 refine (k_blocks w _ 15 0 2 (by decide) HB11.out).mono ?_
 rintro r w12 ⟨rfl, hB12, hK12⟩
 have HB12 := Lib.hid hB12
 have HG12 := Lib.hid (blk_kept HG11.out hK12 id)
 clear hB12 hK12 HB11 HG11
 go_wp2_with fail
 refine wp_region_noPanic ?_
 refine wp_region_held_drew (S := fun W => Kept w12 W (fun _ => False) ∧ Below w.heap.size w W) (by kernel_rfl) ⟨(Kept.refl _ _).drew, below_drew HB12.out⟩ (fun hS => ?_)
 (refine wpAnyH_takeG (i := 0) (by kernel_rfl) (by kernel_rfl) (by kernel_rfl) (fun _ _ _ _ _ h => h) hS ?_; intro oi hoi; simp only [List.getElem?_toArray, List.getElem?_cons_succ, List.getElem?_cons_zero] at hoi; cases hoi; refine ⟨?_, by rfl, ?_, ?_⟩; rotate_left; (focus (intro wS hSw; skip; go_simp; (first | done | with_reducible rfl))); (try simp only [Act.put, List.setIfInBounds_toArray, List.set_cons_zero, List.set_cons_succ])); (refine wpAnyH_takeG (i := 1) (by kernel_rfl) (by kernel_rfl) (by kernel_rfl) (fun _ _ _ _ _ h => h) hS ?_; intro oi hoi; simp only [List.getElem?_toArray, List.getElem?_cons_succ, List.getElem?_cons_zero] at hoi; cases hoi; refine ⟨?_, by rfl, ?_, ?_⟩; rotate_left; (focus (intro wS hSw; skip; go_simp; (first | done | with_reducible rfl))); (try simp only [Act.put, List.setIfInBounds_toArray, List.set_cons_zero, List.set_cons_succ])); (refine wpAnyH_takeG (i := 2) (by kernel_rfl) (by kernel_rfl) (by kernel_rfl) (fun _ _ _ _ _ h => h) hS ?_; intro oi hoi; simp only [List.getElem?_toArray, List.getElem?_cons_succ, List.getElem?_cons_zero] at hoi; cases hoi; refine ⟨?_, by rfl, ?_, ?_⟩; rotate_left; (focus (intro wS hSw; skip; go_simp; (first | done | with_reducible rfl))); (try simp only [Act.put, List.setIfInBounds_toArray, List.set_cons_zero, List.set_cons_succ]))
 (refine wpAnyH_takeG (i := 3) (by kernel_rfl) (by kernel_rfl) (by kernel_rfl) (fun _ _ _ _ _ h => h) hS ?_; intro oi hoi; simp only [List.getElem?_toArray, List.getElem?_cons_succ, List.getElem?_cons_zero] at hoi; cases hoi; refine ⟨?_, by rfl, ?_, ?_⟩; rotate_left; (focus (intro wS hSw; have g0 := (blk_cell (blk_kept HG12.out hSw.1 id) 0).trans rfl; go_simp; (first | done | with_reducible rfl))); (try simp only [Act.put, List.setIfInBounds_toArray, List.set_cons_zero, List.set_cons_succ]))
 (refine wpAnyH_oneG (i := 4) (by kernel_rfl) ?_; intro oi hoi K' hK; simp only [List.getElem?_toArray, List.getElem?_cons_succ, List.getElem?_cons_zero] at hoi; cases hoi; go_simp; refine (to_c w _ 13 hS.2).mono ?_; rintro r w13 ⟨rfl, hB13, hK13⟩; have HB13 := Lib.hid hB13; have HK13 := Lib.hid (hS.1.then_ hK13 (fun _ h => h.elim)); clear hB13 hK13; go_wp2_with fail)
 (refine hK.out _ _ ?_ (fun hS => ?_); (focus (exact ⟨HK13.out, HB13.out⟩)); clear hK K'; (try simp only [Act.put, List.setIfInBounds_toArray, List.set_cons_zero, List.set_cons_succ]))
 (refine wpAnyH_takeG (i := 5) (by kernel_rfl) (by kernel_rfl) (by kernel_rfl) (fun _ _ _ _ _ h => h) hS ?_; intro oi hoi; simp only [List.getElem?_toArray, List.getElem?_cons_succ, List.getElem?_cons_zero] at hoi; cases hoi; refine ⟨?_, by rfl, ?_, ?_⟩; rotate_left; (focus (intro wS hSw; skip; go_simp; (first | done | with_reducible rfl))); (try simp only [Act.put, List.setIfInBounds_toArray, List.set_cons_zero, List.set_cons_succ])); (refine wpAnyH_takeG (i := 6) (by kernel_rfl) (by kernel_rfl) (by kernel_rfl) (fun _ _ _ _ _ h => h) hS ?_; intro oi hoi; simp only [List.getElem?_toArray, List.getElem?_cons_succ, List.getElem?_cons_zero] at hoi; cases hoi; refine ⟨?_, by rfl, ?_, ?_⟩; rotate_left; (focus (intro wS hSw; skip; go_simp; (first | done | with_reducible rfl))); (try simp only [Act.put, List.setIfInBounds_toArray, List.set_cons_zero, List.set_cons_succ])); (refine wpAnyH_takeG (i := 7) (by kernel_rfl) (by kernel_rfl) (by kernel_rfl) (fun _ _ _ _ _ h => h) hS ?_; intro oi hoi; simp only [List.getElem?_toArray, List.getElem?_cons_succ, List.getElem?_cons_zero] at hoi; cases hoi; refine ⟨?_, by rfl, ?_, ?_⟩; rotate_left; (focus (intro wS hSw; skip; go_simp; (first | done | with_reducible rfl))); (try simp only [Act.put, List.setIfInBounds_toArray, List.set_cons_zero, List.set_cons_succ])); (refine wpAnyH_takeG (i := 8) (by kernel_rfl) (by kernel_rfl) (by kernel_rfl) (fun _ _ _ _ _ h => h) hS ?_; intro oi hoi; simp only [List.getElem?_toArray, List.getElem?_cons_succ, List.getElem?_cons_zero] at hoi; cases hoi; refine ⟨?_, by rfl, ?_, ?_⟩; rotate_left; (focus (intro wS hSw; skip; go_simp; (first | done | with_reducible rfl))); (try simp only [Act.put, List.setIfInBounds_toArray, List.set_cons_zero, List.set_cons_succ])); (refine wpAnyH_takeG (i := 9) (by kernel_rfl) (by kernel_rfl) (by kernel_rfl) (fun _ _ _ _ _ h => h) hS ?_; intro oi hoi; simp only [List.getElem?_toArray, List.getElem?_cons_succ, List.getElem?_cons_zero] at hoi; cases hoi; refine ⟨?_, by rfl, ?_, ?_⟩; rotate_left; (focus (intro wS hSw; skip; go_simp; (first | done | with_reducible rfl))); (try simp only [Act.put, List.setIfInBounds_toArray, List.set_cons_zero, List.set_cons_succ])); (refine wpAnyH_takeG (i := 10) (by kernel_rfl) (by kernel_rfl) (by kernel_rfl) (fun _ _ _ _ _ h => h) hS ?_; intro oi hoi; simp only [List.getElem?_toArray, List.getElem?_cons_succ, List.getElem?_cons_zero] at hoi; cases hoi; refine ⟨?_, by rfl, ?_, ?_⟩; rotate_left; (focus (intro wS hSw; skip; go_simp; (first | done | with_reducible rfl))); (try simp only [Act.put, List.setIfInBounds_toArray, List.set_cons_zero, List.set_cons_succ])); (refine wpAnyH_takeG (i := 11) (by kernel_rfl) (by kernel_rfl) (by kernel_rfl) (fun _ _ _ _ _ h => h) hS ?_; intro oi hoi; simp only [List.getElem?_toArray, List.getElem?_cons_succ, List.getElem?_cons_zero] at hoi; cases hoi; refine ⟨?_, by rfl, ?_, ?_⟩; rotate_left; (focus (intro wS hSw; skip; go_simp; (first | done | with_reducible rfl))); (try simp only [Act.put, List.setIfInBounds_toArray, List.set_cons_zero, List.set_cons_succ])); (refine wpAnyH_takeG (i := 12) (by kernel_rfl) (by kernel_rfl) (by kernel_rfl) (fun _ _ _ _ _ h => h) hS ?_; intro oi hoi; simp only [List.getElem?_toArray, List.getElem?_cons_succ, List.getElem?_cons_zero] at hoi; cases hoi; refine ⟨?_, by rfl, ?_, ?_⟩; rotate_left; (focus (intro wS hSw; skip; go_simp; (first | done | with_reducible rfl))); (try simp only [Act.put, List.setIfInBounds_toArray, List.set_cons_zero, List.set_cons_succ])); (refine wpAnyH_takeG (i := 13) (by kernel_rfl) (by kernel_rfl) (by kernel_rfl) (fun _ _ _ _ _ h => h) hS ?_; intro oi hoi; simp only [List.getElem?_toArray, List.getElem?_cons_succ, List.getElem?_cons_zero] at hoi; cases hoi; refine ⟨?_, by rfl, ?_, ?_⟩; rotate_left; (focus (intro wS hSw; skip; go_simp; (first | done | with_reducible rfl))); (try simp only [Act.put, List.setIfInBounds_toArray, List.set_cons_zero, List.set_cons_succ])); (refine wpAnyH_takeG (i := 14) (by kernel_rfl) (by kernel_rfl) (by kernel_rfl) (fun _ _ _ _ _ h => h) hS ?_; intro oi hoi; simp only [List.getElem?_toArray, List.getElem?_cons_succ, List.getElem?_cons_zero] at hoi; cases hoi; refine ⟨?_, by rfl, ?_, ?_⟩; rotate_left; (focus (intro wS hSw; skip; go_simp; (first | done | with_reducible rfl))); (try simp only [Act.put, List.setIfInBounds_toArray, List.set_cons_zero, List.set_cons_succ])); (refine wpAnyH_takeG (i := 15) (by kernel_rfl) (by kernel_rfl) (by kernel_rfl) (fun _ _ _ _ _ h => h) hS ?_; intro oi hoi; simp only [List.getElem?_toArray, List.getElem?_cons_succ, List.getElem?_cons_zero] at hoi; cases hoi; refine ⟨?_, by rfl, ?_, ?_⟩; rotate_left; (focus (intro wS hSw; skip; go_simp; (first | done | with_reducible rfl))); (try simp only [Act.put, List.setIfInBounds_toArray, List.set_cons_zero, List.set_cons_succ])); (refine wpAnyH_takeG (i := 16) (by kernel_rfl) (by kernel_rfl) (by kernel_rfl) (fun _ _ _ _ _ h => h) hS ?_; intro oi hoi; simp only [List.getElem?_toArray, List.getElem?_cons_succ, List.getElem?_cons_zero] at hoi; cases hoi; refine ⟨?_, by rfl, ?_, ?_⟩; rotate_left; (focus (intro wS hSw; skip; go_simp; (first | done | with_reducible rfl))); (try simp only [Act.put, List.setIfInBounds_toArray, List.set_cons_zero, List.set_cons_succ])); (refine wpAnyH_takeG (i := 17) (by kernel_rfl) (by kernel_rfl) (by kernel_rfl) (fun _ _ _ _ _ h => h) hS ?_; intro oi hoi; simp only [List.getElem?_toArray, List.getElem?_cons_succ, List.getElem?_cons_zero] at hoi; cases hoi; refine ⟨?_, by rfl, ?_, ?_⟩; rotate_left; (focus (intro wS hSw; skip; go_simp; (first | done | with_reducible rfl))); (try simp only [Act.put, List.setIfInBounds_toArray, List.set_cons_zero, List.set_cons_succ])); (refine wpAnyH_takeG (i := 18) (by kernel_rfl) (by kernel_rfl) (by kernel_rfl) (fun _ _ _ _ _ h => h) hS ?_; intro oi hoi; simp only [List.getElem?_toArray, List.getElem?_cons_succ, List.getElem?_cons_zero] at hoi; cases hoi; refine ⟨?_, by rfl, ?_, ?_⟩; rotate_left; (focus (intro wS hSw; skip; go_simp; (first | done | with_reducible rfl))); (try simp only [Act.put, List.setIfInBounds_toArray, List.set_cons_zero, List.set_cons_succ])); (refine wpAnyH_takeG (i := 19) (by kernel_rfl) (by kernel_rfl) (by kernel_rfl) (fun _ _ _ _ _ h => h) hS ?_; intro oi hoi; simp only [List.getElem?_toArray, List.getElem?_cons_succ, List.getElem?_cons_zero] at hoi; cases hoi; refine ⟨?_, by rfl, ?_, ?_⟩; rotate_left; (focus (intro wS hSw; skip; go_simp; (first | done | with_reducible rfl))); (try simp only [Act.put, List.setIfInBounds_toArray, List.set_cons_zero, List.set_cons_succ])); (refine wpAnyH_takeG (i := 20) (by kernel_rfl) (by kernel_rfl) (by kernel_rfl) (fun _ _ _ _ _ h => h) hS ?_; intro oi hoi; simp only [List.getElem?_toArray, List.getElem?_cons_succ, List.getElem?_cons_zero] at hoi; cases hoi; refine ⟨?_, by rfl, ?_, ?_⟩; rotate_left; (focus (intro wS hSw; skip; go_simp; (first | done | with_reducible rfl))); (try simp only [Act.put, List.setIfInBounds_toArray, List.set_cons_zero, List.set_cons_succ])); (refine wpAnyH_takeG (i := 21) (by kernel_rfl) (by kernel_rfl) (by kernel_rfl) (fun _ _ _ _ _ h => h) hS ?_; intro oi hoi; simp only [List.getElem?_toArray, List.getElem?_cons_succ, List.getElem?_cons_zero] at hoi; cases hoi; refine ⟨?_, by rfl, ?_, ?_⟩; rotate_left; (focus (intro wS hSw; skip; go_simp; (first | done | with_reducible rfl))); (try simp only [Act.put, List.setIfInBounds_toArray, List.set_cons_zero, List.set_cons_succ])); (refine wpAnyH_takeG (i := 22) (by kernel_rfl) (by kernel_rfl) (by kernel_rfl) (fun _ _ _ _ _ h => h) hS ?_; intro oi hoi; simp only [List.getElem?_toArray, List.getElem?_cons_succ, List.getElem?_cons_zero] at hoi; cases hoi; refine ⟨?_, by rfl, ?_, ?_⟩; rotate_left; (focus (intro wS hSw; skip; go_simp; (first | done | with_reducible rfl))); (try simp only [Act.put, List.setIfInBounds_toArray, List.set_cons_zero, List.set_cons_succ]))
 refine wpAnyH_done (by kernel_rfl) ?_ _
 refine NoPanic.normal ?_
 clear HG12 HK13 hS
 go_wp2_with fail
 refine (to_c w _ 24 HB13.out).mono ?_
 rintro r w14 ⟨rfl, hB14, _⟩
 have HB14 := Lib.hid hB14
 clear hB14 HB13
 go_wp2_with fail
 refine (k_chan w _ 3 24 0 [14, 15, 16, 17, 18, 19, 20, 21, 22, 23, 24, 25, 26, 27] (by decide) HB14.out).mono ?_
 rintro r w15 ⟨Aa, ca, rfl, hCa, hB15, _⟩
 have HB15 := Lib.hid hB15
 have HCa := Lib.hid hCa
 clear hB15 hCa HB14
 go_wp2_with fail
 refine (to_c w _ 7 HB15.out).mono ?_
 rintro r w16 ⟨rfl, hB16, hK16⟩
 have HB16 := Lib.hid hB16
 have HCa16 := Lib.hid ((Kd.heap_int .i64).C (fun i hlt => hK16.2 i hlt id) HCa.out)
 clear hB16 hK16 HB15 HCa
 go_wp2_with fail
 refine (k_chan w _ 3 7 0 [14, 15, 16, 17, 18, 19, 20, 21, 22, 23, 24, 25, 26, 27, 28, 29, 30, 31, 32, 33, 34, 35, 36, 38, 39, 40, 41, 42, 43, 44] (by decide) HB16.out).mono ?_
 rintro r w17 ⟨Ab, cb, rfl, _, hB17, hK17⟩
 have HB17 := Lib.hid hB17
 have HCa17 := Lib.hid ((Kd.heap_int .i64).C (fun i hlt => hK17.2 i hlt id) HCa16.out)
 clear hB17 hK17 HB16 HCa16
 have HB18 := Lib.hid (below_alloc' (below_alloc' (below_alloc' HB17.out (.cells #[.int .i64 1, .int .i64 3] 3)) (.cells #[.int .i64 4, .slice (some ⟨w17.heap.size, 0, none⟩) 2 2] 78)) (.cells #[.int .i64 4, .int .i64 5, .int .i64 0, .int .i64 14, .int .i64 51] 84))
 have HK18 := Lib.hid ((((Kept.refl w17 (fun _ => False)).alloc (.cells #[.int .i64 1, .int .i64 3] 3)).alloc (.cells #[.int .i64 4, .slice (some ⟨w17.heap.size, 0, none⟩) 2 2] 78)).alloc (.cells #[.int .i64 4, .int .i64 5, .int .i64 0, .int .i64 14, .int .i64 51] 84))
 have HL := Lib.hid (lit_world w17)
 go_wp2_with fail
 generalize ((w17.alloc (.cells #[.int .i64 1, .int .i64 3] 3)).alloc (.cells #[.int .i64 4, .slice (some ⟨w17.heap.size, 0, none⟩) 2 2] 78)).alloc (.cells #[.int .i64 4, .int .i64 5, .int .i64 0, .int .i64 14, .int .i64 51] 84) = w18 at HB18 HK18 HL ⊢
 have HCa18 := Lib.hid ((Kd.heap_int .i64).C (fun i hlt => HK18.out.2 i hlt id) HCa17.out)
 clear HB17 HK18 HCa17
 refine (to_c w _ 24 HB18.out).mono ?_
 rintro r w19 ⟨rfl, hB19, hK19⟩
 have HB19 := Lib.hid hB19
 have HCa19 := Lib.hid ((Kd.heap_int .i64).C (fun i hlt => hK19.2 i hlt id) HCa18.out)
 have HL1 := Lib.hid (C_noneBands HL.out.1 hK19)
 have HL2 := Lib.hid (C_nonePair HL.out.2 hK19)
 clear hB19 hK19 HB18 HCa18 HL
 go_wp2_with fail
 refine (k_pro w _ _ _ _ _ HB19.out HL1.out (by decide) HL2.out (by decide)).mono ?_
 rintro r w20 ⟨A0, A1, A2, A3, c0, c1, c2, c3, n2, n3, rfl, hC20, hB20, hK20⟩
 have HB20 := Lib.hid (below_alloc' hB20 (.cells #[.slice A0 1 c0, .slice A1 0 c1, .slice A2 n2 c2, .slice A3 n3 c3] 49))
 have HCa20 := Lib.hid (Kd.C_alloc ((Kd.heap_int .i64).C (fun i hlt => hK20.2 i hlt id) HCa19.out) (.cells #[.slice A0 1 c0, .slice A1 0 c1, .slice A2 n2 c2, .slice A3 n3 c3] 49))
 have HC20 := Lib.hid (Kd.C_alloc hC20 (.cells #[.slice A0 1 c0, .slice A1 0 c1, .slice A2 n2 c2, .slice A3 n3 c3] 49))
 have HG20 := Lib.hid (blk_new w20 (.cells #[.slice A0 1 c0, .slice A1 0 c1, .slice A2 n2 c2, .slice A3 n3 c3] 49))
 clear hC20 hB20 hK20 HB19 HCa19 HL1 HL2
 go_upto_region 16 with fail
 generalize w20.alloc (.cells #[.slice A0 1 c0, .slice A1 0 c1, .slice A2 n2 c2, .slice A3 n3 c3] 49) = w21 at HB20 HCa20 HC20 HG20 ⊢
 generalize w20.heap.size = gp at HG20 ⊢
 obtain ⟨ad, hA, e0⟩ := C_at HCa20.out 0 (by decide)
 obtain ⟨ad', hA', e13⟩ := C_at HCa20.out 13 (by decide)
 subst hA
 cases hA'
 obtain ⟨bd, Ad, cd, hB, f0, f1, _, _⟩ := at_T86 HC20.out 0 (by decide) (by decide)
 subst hB
 rw [show ((0 : Int).toNat * 2) = 0 by decide, Addr.add_zero'] at f0 f1
 rw [show (rd_T86 (kl.map (domOf 24)) 0).f1.length = 19 by decide] at f1
 have g0 : w21.cell? ⟨gp, 0, none⟩ = some (.slice (some bd) 1 c0) := (blk_cell HG20.out 0).trans rfl
 have g1 : w21.cell? ⟨gp, 1, none⟩ = some (.slice A1 0 c1) := (blk_cell HG20.out 1).trans rfl
 rw [show ad.add 13 = ⟨ad.block, ad.off + 13, none⟩ by simp [Addr.add]] at e13
 rw [Addr.add_zero'] at e0
 rw [show List.getD [14, 15, 16, 17, 18, 19, 20, 21, 22, 23, 24, 25, 26, 27] 0 (0 : Int) = 14 by decide] at e0
 rw [show List.getD [14, 15, 16, 17, 18, 19, 20, 21, 22, 23, 24, 25, 26, 27] 13 (0 : Int) = 27 by decide] at e13
 go_wp2_with fail
 go_ret
 exact ⟨rfl, HB20.out⟩
end Go.Proofs.Ytenhigpeafaidaa.T
-- Uk
-- Printed by a program of this session's over the kit's printer, with functions given from outside. Lean checks it.
namespace Go.Proofs.Ytenhigpeafaidaa.U
open Go.RowKit Go.Proofs.YtenhigpeafaidaaW.PrintWords Go.Proofs.YtenhigpeafaidaaW.PrintLast Go.Proofs.YtenhigpeafaidaaW.PrintMore Go.Proofs.Ytenhigpeafaidaa.Q
attribute [local go_sem] max2_int min2_int max_two min_two max_three min_three max_four min_four   -- for this text's walks alone
set_option linter.unusedVariables false
set_option linter.unusedSimpArgs false


-- the values' own types
/-! #### struct type 34 -/
end Go.Proofs.Ytenhigpeafaidaa.U
-- Ux0
-- Printed by a program of this session's over the kit's printer, with functions given from outside. Lean checks it.
namespace Go.Proofs.Ytenhigpeafaidaa.U
open Go.RowKit Go.Proofs.YtenhigpeafaidaaW.PrintWords Go.Proofs.YtenhigpeafaidaaW.PrintLast Go.Proofs.YtenhigpeafaidaaW.PrintMore Go.Proofs.Ytenhigpeafaidaa.Q
attribute [local go_sem] max2_int min2_int max_two min_two max_three min_three max_four min_four   -- for this text's walks alone
set_option linter.unusedVariables false
set_option linter.unusedSimpArgs false

theorem sz {α : Type} (a : α) (l : List α) (b : α) : (a :: l).set 0 b = b :: l := List.set_cons_zero ..
class BlkS (w : outParam World) (w' : World) : Prop where
 up : ∀ {g : Nat} {o : Obj}, w.heap[g]? = some o → w'.heap[g]? = some o
instance {w : World} {o : Obj} : BlkS w (w.alloc o) := ⟨fun h => blk_alloc h o⟩
instance {w : World} {n : Nat} : BlkS w (w.drewN n) := ⟨fun h => blk_drewN h n⟩
instance {w : World} : BlkS w w.drew := ⟨fun h => blk_drew h⟩
theorem bk {w w' : World} {g : Nat} {o : Obj} [i : BlkS w w'] (h : w.heap[g]? = some o) : w'.heap[g]? = some o := i.up h
class BlkC (w w' : World) : Prop where
 up : ∀ {g : Nat} {o : Obj}, w.heap[g]? = some o → w'.heap[g]? = some o
instance {w : World} : BlkC w w := ⟨id⟩
instance {w w' : World} {o : Obj} [i : BlkC w w'] : BlkC w (w'.alloc o) := ⟨fun h => blk_alloc (i.up h) o⟩
instance {w w' : World} {n : Nat} [i : BlkC w w'] : BlkC w (w'.drewN n) := ⟨fun h => blk_drewN (i.up h) n⟩
instance {w w' : World} [i : BlkC w w'] : BlkC w w'.drew := ⟨fun h => blk_drew (i.up h)⟩
theorem bb {w w1 w2 : World} {g : Nat} {o : Obj} [i : BlkC w w1] (h : w.heap[g]? = some o) (hb : Below w1.heap.size w1 w2) : w2.heap[g]? = some o := blk_below (i.up h) hb
theorem bl {w w1 : World} {g : Nat} {o : Obj} [i : BlkC w w1] (h : w.heap[g]? = some o) : g < w1.heap.size := blk_lt (i.up h)
theorem bg {w w1 w2 : World} {g : Nat} {o : Obj} {row : Option Nat} [i : BlkC w w1] (h : w.heap[g]? = some o) (hg : w1.grownBy w2 row) (hne : some g ≠ row) : w2.heap[g]? = some o := blk_grown (i.up h) hg hne
theorem bc3 {w : World} {g t : Nat} {a b c : Value} (H : w.heap[g]? = some (.cells #[a, b, c] t (0, 0))) : w.cell? ⟨g, 0, none⟩ = some a ∧ w.cell? ⟨g, 1, none⟩ = some b ∧ w.cell? ⟨g, 2, none⟩ = some c := ⟨(blk_cell H 0).trans rfl, (blk_cell H 1).trans rfl, (blk_cell H 2).trans rfl⟩
theorem bz3 {w : World} {g t : Nat} {cs : Array Value} (H : w.heap[g]? = some (.cells cs t (0, 0))) : w.frozen? ⟨g, 0, none⟩ = false ∧ w.frozen? ⟨g, 1, none⟩ = false ∧ w.frozen? ⟨g, 2, none⟩ = false := ⟨blk_frozen H 0, blk_frozen H 1, blk_frozen H 2⟩
theorem bc4 {w : World} {g t : Nat} {a b c d : Value} (H : w.heap[g]? = some (.cells #[a, b, c, d] t (0, 0))) : w.cell? ⟨g, 0, none⟩ = some a ∧ w.cell? ⟨g, 1, none⟩ = some b ∧ w.cell? ⟨g, 2, none⟩ = some c ∧ w.cell? ⟨g, 3, none⟩ = some d := ⟨(blk_cell H 0).trans rfl, (blk_cell H 1).trans rfl, (blk_cell H 2).trans rfl, (blk_cell H 3).trans rfl⟩
theorem bz4 {w : World} {g t : Nat} {cs : Array Value} (H : w.heap[g]? = some (.cells cs t (0, 0))) : w.frozen? ⟨g, 0, none⟩ = false ∧ w.frozen? ⟨g, 1, none⟩ = false ∧ w.frozen? ⟨g, 2, none⟩ = false ∧ w.frozen? ⟨g, 3, none⟩ = false := ⟨blk_frozen H 0, blk_frozen H 1, blk_frozen H 2, blk_frozen H 3⟩
theorem bc5 {w : World} {g t : Nat} {a b c d e : Value} (H : w.heap[g]? = some (.cells #[a, b, c, d, e] t (0, 0))) : w.cell? ⟨g, 0, none⟩ = some a ∧ w.cell? ⟨g, 1, none⟩ = some b ∧ w.cell? ⟨g, 2, none⟩ = some c ∧ w.cell? ⟨g, 3, none⟩ = some d ∧ w.cell? ⟨g, 4, none⟩ = some e := ⟨(blk_cell H 0).trans rfl, (blk_cell H 1).trans rfl, (blk_cell H 2).trans rfl, (blk_cell H 3).trans rfl, (blk_cell H 4).trans rfl⟩
theorem bz5 {w : World} {g t : Nat} {cs : Array Value} (H : w.heap[g]? = some (.cells cs t (0, 0))) : w.frozen? ⟨g, 0, none⟩ = false ∧ w.frozen? ⟨g, 1, none⟩ = false ∧ w.frozen? ⟨g, 2, none⟩ = false ∧ w.frozen? ⟨g, 3, none⟩ = false ∧ w.frozen? ⟨g, 4, none⟩ = false := ⟨blk_frozen H 0, blk_frozen H 1, blk_frozen H 2, blk_frozen H 3, blk_frozen H 4⟩
theorem bc8 {w : World} {g t : Nat} {a b c d e f h i : Value} (H : w.heap[g]? = some (.cells #[a, b, c, d, e, f, h, i] t (0, 0))) : w.cell? ⟨g, 0, none⟩ = some a ∧ w.cell? ⟨g, 1, none⟩ = some b ∧ w.cell? ⟨g, 2, none⟩ = some c ∧ w.cell? ⟨g, 3, none⟩ = some d ∧ w.cell? ⟨g, 4, none⟩ = some e ∧ w.cell? ⟨g, 5, none⟩ = some f ∧ w.cell? ⟨g, 6, none⟩ = some h ∧ w.cell? ⟨g, 7, none⟩ = some i := ⟨(blk_cell H 0).trans rfl, (blk_cell H 1).trans rfl, (blk_cell H 2).trans rfl, (blk_cell H 3).trans rfl, (blk_cell H 4).trans rfl, (blk_cell H 5).trans rfl, (blk_cell H 6).trans rfl, (blk_cell H 7).trans rfl⟩
theorem bz8 {w : World} {g t : Nat} {cs : Array Value} (H : w.heap[g]? = some (.cells cs t (0, 0))) : w.frozen? ⟨g, 0, none⟩ = false ∧ w.frozen? ⟨g, 1, none⟩ = false ∧ w.frozen? ⟨g, 2, none⟩ = false ∧ w.frozen? ⟨g, 3, none⟩ = false ∧ w.frozen? ⟨g, 4, none⟩ = false ∧ w.frozen? ⟨g, 5, none⟩ = false ∧ w.frozen? ⟨g, 6, none⟩ = false ∧ w.frozen? ⟨g, 7, none⟩ = false := ⟨blk_frozen H 0, blk_frozen H 1, blk_frozen H 2, blk_frozen H 3, blk_frozen H 4, blk_frozen H 5, blk_frozen H 6, blk_frozen H 7⟩

end Go.Proofs.Ytenhigpeafaidaa.U
-- Ux3
-- Printed by a program of this session's over the kit's printer, with functions given from outside. Lean checks it.
namespace Go.Proofs.Ytenhigpeafaidaa.U
open Go.RowKit Go.Proofs.YtenhigpeafaidaaW.PrintWords Go.Proofs.YtenhigpeafaidaaW.PrintLast Go.Proofs.YtenhigpeafaidaaW.PrintMore Go.Proofs.Ytenhigpeafaidaa.Q
attribute [local go_sem] max2_int min2_int max_two min_two max_three min_three max_four min_four   -- for this text's walks alone
set_option linter.unusedVariables false
set_option linter.unusedSimpArgs false

/-! ### bandplanref26_Of: function 11 -/
mutual
def bandplanref26_Of.j0 : Nat → Int → Bool → Option (Int)
 | 0, _, _ => none
 | k + 1, x0, x3 => if x3 = true then (some 1) else (if x0 ≥ 7 then (bandplanref26_Of.j1 k x0 (decide (x0 ≤ 13))) else (bandplanref26_Of.j1 k x0 false))
def bandplanref26_Of.j1 : Nat → Int → Bool → Option (Int)
 | 0, _, _ => none
 | k + 1, x0, x10 => if x10 = true then (some 2) else (if x0 ≥ 14 then (if x0 ≤ 51 then (some 3) else (some 0)) else (some 0))
end
def bandplanref26_Of.f (k : Nat) (a0 : Int) : Option (Int) := if a0 ≥ 2 then (bandplanref26_Of.j0 k a0 (decide (a0 ≤ 6))) else (bandplanref26_Of.j0 k a0 false)
theorem bandplanref26_Of.mono_l : ∀ k, (∀ y0 y1, LeO (bandplanref26_Of.j0 k y0 y1) (bandplanref26_Of.j0 (k + 1) y0 y1)) ∧ (∀ y0 y1, LeO (bandplanref26_Of.j1 k y0 y1) (bandplanref26_Of.j1 (k + 1) y0 y1))
 | 0 => ⟨fun _ _ r h => by simp [bandplanref26_Of.j0] at h, fun _ _ r h => by simp [bandplanref26_Of.j1] at h⟩
 | k + 1 => by
  obtain ⟨ih0, ih1⟩ := bandplanref26_Of.mono_l k
  refine ⟨?_, ?_⟩
  ·
   intro y0 y1
   unfold bandplanref26_Of.j0
   repeat' first
   | (with_reducible exact ih0 _ _)
   | (with_reducible exact ih1 _ _)
   | (with_reducible exact LeO.refl _)
   | (with_reducible exact LeO.none _)
   | (with_reducible refine LeO.ite ?_ ?_)
   | (with_reducible refine LeO.bind ?_ (fun _ => ?_))
   | exact ih0 _ _
   | exact ih1 _ _
   | exact LeO.none _
   | refine LeO.ite ?_ ?_
   | refine LeO.bind ?_ (fun _ => ?_)
  ·
   intro y0 y1
   unfold bandplanref26_Of.j1
   repeat' first
   | (with_reducible exact ih0 _ _)
   | (with_reducible exact ih1 _ _)
   | (with_reducible exact LeO.refl _)
   | (with_reducible exact LeO.none _)
   | (with_reducible refine LeO.ite ?_ ?_)
   | (with_reducible refine LeO.bind ?_ (fun _ => ?_))
   | exact ih0 _ _
   | exact ih1 _ _
   | exact LeO.none _
   | refine LeO.ite ?_ ?_
   | refine LeO.bind ?_ (fun _ => ?_)
theorem bandplanref26_Of.mono : ∀ a0 k, LeO (bandplanref26_Of.f k a0) (bandplanref26_Of.f (k + 1) a0) := by
 intro a0 k
 obtain ⟨ih0, ih1⟩ := bandplanref26_Of.mono_l k
 unfold bandplanref26_Of.f
 repeat' first
   | (with_reducible exact ih0 _ _)
   | (with_reducible exact ih1 _ _)
   | (with_reducible exact LeO.refl _)
   | (with_reducible exact LeO.none _)
   | (with_reducible refine LeO.ite ?_ ?_)
   | (with_reducible refine LeO.bind ?_ (fun _ => ?_))
   | exact ih0 _ _
   | exact ih1 _ _
   | exact LeO.none _
   | refine LeO.ite ?_ ?_
   | refine LeO.bind ?_ (fun _ => ?_)
set_option maxHeartbeats 8000000 in
set_option maxRecDepth 100000 in
theorem bandplanref26_Of.calls (k : Nat) (a0 : Int) (r : Int) (w : World) (h : bandplanref26_Of.f k a0 = some r) :
  Calls Try.prog 11 #[.int .i64 a0] w fun e w' => e = .returned (.int .i64 r) ∧ Drawn0 w w' := by
 have H : (if a0 ≥ 2 then (bandplanref26_Of.j0 k a0 (decide (a0 ≤ 6))) else (bandplanref26_Of.j0 k a0 false)) = some r := h
 clear h
 have HC2 := Aside0.mk H
 clear H
 go_enter Try.func11, Try.ntmps11
 go_upto_region 1 with (fail)
 go_cut [3] (fun v3 wc => ∃ (kq : Nat) (x3_1 : Bool), v3 = .bool x3_1 ∧ Aside0 (bandplanref26_Of.j0 kq a0 x3_1 = some r) ∧ Aside0 (kq ≤ k) ∧ Drawn0 w wc)
 case first =>
  have H := HC2.out
  clear HC2
  by_cases c3 : a0 ≥ 2
  ·
   rw [if_pos c3] at H
   have c3b0 : decide (2 ≤ a0) = true := decide_eq_true c3
   clear c3
   (first | rw [c3b0] | (simp only [i64_w, i32_w]; rw [c3b0]) | skip)
   have H' := Aside0.mk H
   clear H
   go_wp2
   go_meet
   case rel => exact ⟨_, (decide (a0 ≤ 6)), (by first | rfl | (simp; done) | (simp [*]; done)), H', ⟨by first | omega | exact Nat.le_refl _⟩, by repeat (first | exact Drawn0.refl _ | apply Drawn0.step)⟩
  ·
   rw [if_neg c3] at H
   have c3b0 : decide (2 ≤ a0) = false := decide_eq_false c3
   clear c3
   (first | rw [c3b0] | (simp only [i64_w, i32_w]; rw [c3b0]) | skip)
   have H' := Aside0.mk H
   clear H
   go_wp2
   go_meet
   case rel => exact ⟨_, (false), (by first | rfl | (simp; done) | (simp [*]; done)), H', ⟨by first | omega | exact Nat.le_refl _⟩, by repeat (first | exact Drawn0.refl _ | apply Drawn0.step)⟩
 case rest =>
  clear HC2
  try clear c1
  try clear p2
  try clear c3
  try clear c3b0
  obtain ⟨kq, x3_1, rfl, HA, HJ1, ⟨mc1, rfl⟩⟩ := hcut
  cases kq with
  | zero => exact absurd HA.out (by simp [bandplanref26_Of.j0])
  | succ kj1 =>
   have H := HA.out
   clear HA
   simp only [bandplanref26_Of.j0] at H
   by_cases c4 : x3_1 = true
   ·
    subst c4
    have H1 : (some 1) = some r := by rw [if_pos rfl] at H; exact H
    clear H
    have H := H1
    clear H1
    obtain rfl := Option.some.inj H
    go_wp2
    go_ret
    exact ⟨by first | rfl | (simp; done) | (simp [*]; done), by repeat (first | exact Drawn0.refl _ | apply Drawn0.step)⟩
   ·
    replace c4 := Bool.eq_false_iff.mpr c4
    subst c4
    have H1 : (if a0 ≥ 7 then (bandplanref26_Of.j1 kj1 a0 (decide (a0 ≤ 13))) else (bandplanref26_Of.j1 kj1 a0 false)) = some r := by rw [if_neg (show ¬ (false = true) by decide)] at H; exact H
    clear H
    have H := H1
    clear H1
    have HC5 := Aside0.mk H
    clear H
    go_upto_region 3 with (fail)
    go_cut [10] (fun v10 wc => ∃ (kq : Nat) (x10_4 : Bool), v10 = .bool x10_4 ∧ Aside0 (bandplanref26_Of.j1 kq a0 x10_4 = some r) ∧ Aside0 (kq ≤ kj1) ∧ Drawn0 w wc)
    case first =>
     have H := HC5.out
     clear HC5
     by_cases c6 : a0 ≥ 7
     ·
      rw [if_pos c6] at H
      have c6b0 : decide (7 ≤ a0) = true := decide_eq_true c6
      clear c6
      (first | rw [c6b0] | (simp only [i64_w, i32_w]; rw [c6b0]) | skip)
      have H' := Aside0.mk H
      clear H
      go_wp2
      go_meet
      case rel => exact ⟨_, (decide (a0 ≤ 13)), (by first | rfl | (simp; done) | (simp [*]; done)), H', ⟨by have := HJ1.out; first | omega | exact Nat.le_refl _⟩, by repeat (first | exact Drawn0.refl _ | apply Drawn0.step)⟩
     ·
      rw [if_neg c6] at H
      have c6b0 : decide (7 ≤ a0) = false := decide_eq_false c6
      clear c6
      (first | rw [c6b0] | (simp only [i64_w, i32_w]; rw [c6b0]) | skip)
      have H' := Aside0.mk H
      clear H
      go_wp2
      go_meet
      case rel => exact ⟨_, (false), (by first | rfl | (simp; done) | (simp [*]; done)), H', ⟨by have := HJ1.out; first | omega | exact Nat.le_refl _⟩, by repeat (first | exact Drawn0.refl _ | apply Drawn0.step)⟩
    case rest =>
     clear HC5
     try clear c1
     try clear p2
     try clear c3
     try clear c3b0
     try clear c4
     try clear c6
     try clear c6b0
     try clear p2
     obtain ⟨kq, x10_4, rfl, HA, HJ4, ⟨mc4, rfl⟩⟩ := hcut
     cases kq with
     | zero => exact absurd HA.out (by simp [bandplanref26_Of.j1])
     | succ kj4 =>
      have H := HA.out
      clear HA
      simp only [bandplanref26_Of.j1] at H
      by_cases c7 : x10_4 = true
      ·
       subst c7
       have H1 : (some 2) = some r := by rw [if_pos rfl] at H; exact H
       clear H
       have H := H1
       clear H1
       obtain rfl := Option.some.inj H
       go_wp2
       go_ret
       exact ⟨by first | rfl | (simp; done) | (simp [*]; done), by repeat (first | exact Drawn0.refl _ | apply Drawn0.step)⟩
      ·
       replace c7 := Bool.eq_false_iff.mpr c7
       subst c7
       have H1 : (if a0 ≥ 14 then (if a0 ≤ 51 then (some 3) else (some 0)) else (some 0)) = some r := by rw [if_neg (show ¬ (false = true) by decide)] at H; exact H
       clear H
       have H := H1
       clear H1
       by_cases c8 : a0 ≥ 14
       ·
        rw [if_pos c8] at H
        have c8b0 : decide (14 ≤ a0) = true := decide_eq_true c8
        clear c8
        by_cases c9 : a0 ≤ 51
        ·
         rw [if_pos c9] at H
         have c9b0 : decide (a0 ≤ 51) = true := decide_eq_true c9
         clear c9
         obtain rfl := Option.some.inj H
         go_wp2
         go_ret
         exact ⟨by first | rfl | (simp; done) | (simp [*]; done), by repeat (first | exact Drawn0.refl _ | apply Drawn0.step)⟩
        ·
         rw [if_neg c9] at H
         have c9b0 : decide (a0 ≤ 51) = false := decide_eq_false c9
         clear c9
         obtain rfl := Option.some.inj H
         go_wp2
         go_ret
         exact ⟨by first | rfl | (simp; done) | (simp [*]; done), by repeat (first | exact Drawn0.refl _ | apply Drawn0.step)⟩
       ·
        rw [if_neg c8] at H
        have c8b0 : decide (14 ≤ a0) = false := decide_eq_false c8
        clear c8
        obtain rfl := Option.some.inj H
        go_wp2
        go_ret
        exact ⟨by first | rfl | (simp; done) | (simp [*]; done), by repeat (first | exact Drawn0.refl _ | apply Drawn0.step)⟩

end Go.Proofs.Ytenhigpeafaidaa.U
-- Ux8
-- Printed by a program of this session's over the kit's printer, with functions given from outside. Lean checks it.
namespace Go.Proofs.Ytenhigpeafaidaa.U
open Go.RowKit Go.Proofs.YtenhigpeafaidaaW.PrintWords Go.Proofs.YtenhigpeafaidaaW.PrintLast Go.Proofs.YtenhigpeafaidaaW.PrintMore Go.Proofs.Ytenhigpeafaidaa.Q
attribute [local go_sem] max2_int min2_int max_two min_two max_three min_three max_four min_four   -- for this text's walks alone
set_option linter.unusedVariables false
set_option linter.unusedSimpArgs false

/-! ### bandplanref26_Cleared: function 30 -/
def bandplanref26_Cleared.f  : Option (List Int) := some (([24, 23, 21, 19, 18, 14, 13, 12, 10, 8, 7] : List Int))
set_option maxHeartbeats 8000000 in
set_option maxRecDepth 100000 in
theorem bandplanref26_Cleared.calls  (r : List Int) (w : World) (h : bandplanref26_Cleared.f  = some r) :
  Calls Try.prog 30 #[] w fun e w' => ∃ v0_ : Value, e = .returned (v0_) ∧ Kd.R (Kd.int .i64) 3 w' w.heap.size (fun _ => True) v0_ r ∧ Below w.heap.size w w' := by
 have HB := Aside0.mk (Below.refl w.heap.size w)
 have H : (some (([24, 23, 21, 19, 18, 14, 13, 12, 10, 8, 7] : List Int))) = some r := h
 clear h
 obtain ⟨y115, hy115⟩ : ∃ y_ : List Int, y_ = (([24, 23, 21, 19, 18, 14, 13, 12, 10, 8, 7] : List Int)) := ⟨_, rfl⟩
 replace H : (some y115) = some r := by first | (rw [hy115]; with_reducible exact H) | (have H2_ := (Option.bind_some _ _).symm.trans H; rw [hy115]; with_reducible exact H2_) | (have H2_ := (Option.bind_some _ _).symm.trans H; with_reducible exact H2_) | with_reducible exact H | (rw [hy115]; exact H) | exact H
 have Ny115 := Aside0.mk hy115
 clear hy115
 obtain rfl := Option.some.inj H
 go_enter Try.func30, Try.ntmps30
 go_wp2_with (first | ((with_reducible refine gate_dst (N := 1) rfl ?_); refine Kd.R_lit (Kd.int .i64) _ 3 ?hg (N := 1) ?hd (xs := ([24, 23, 21, 19, 18, 14, 13, 12, 10, 8, 7] : List Int)) (inner := [.int .i64 24, .int .i64 23, .int .i64 21, .int .i64 19, .int .i64 18, .int .i64 14, .int .i64 13, .int .i64 12, .int .i64 10, .int .i64 8, .int .i64 7]) (ok := fun _ => True) (okp := fun _ => True) ?hr ?hp (fun _ hk => hk) trivial (Below.refl _ _) (Nat.le_refl _) (by simp) ?_; (case hd => rfl); (case hg => rfl); (case hr => first | (go_simp; done) | (go_simp; rfl)); (case hp => exact (Reps.one (show Kd.M (Kd.int .i64) _ _ _ 24 [.int .i64 24] from rfl) (Reps.one (show Kd.M (Kd.int .i64) _ _ _ 23 [.int .i64 23] from rfl) (Reps.one (show Kd.M (Kd.int .i64) _ _ _ 21 [.int .i64 21] from rfl) (Reps.one (show Kd.M (Kd.int .i64) _ _ _ 19 [.int .i64 19] from rfl) (Reps.one (show Kd.M (Kd.int .i64) _ _ _ 18 [.int .i64 18] from rfl) (Reps.one (show Kd.M (Kd.int .i64) _ _ _ 14 [.int .i64 14] from rfl) (Reps.one (show Kd.M (Kd.int .i64) _ _ _ 13 [.int .i64 13] from rfl) (Reps.one (show Kd.M (Kd.int .i64) _ _ _ 12 [.int .i64 12] from rfl) (Reps.one (show Kd.M (Kd.int .i64) _ _ _ 10 [.int .i64 10] from rfl) (Reps.one (show Kd.M (Kd.int .i64) _ _ _ 8 [.int .i64 8] from rfl) (Reps.one (show Kd.M (Kd.int .i64) _ _ _ 7 [.int .i64 7] from rfl) (Reps.none _ _))))))))))))); intro v116 w1 ho2 hb hg_ hnew_; clear hg_ hnew_; (first | rw [← Ny115.out] at ho2 | (simp only [Int.reduceToNat] at ho2; rw [← Ny115.out] at ho2)); have n0_ := Aside0.mk (Kd.R_lower ho2 (below_size (by repeat (first | (with_reducible first | exact HB.out | apply below_alloc | apply pw_below_drewN | apply below_drew1) | exact HB.out)))); have n1_ := Aside0.mk (below_step (by repeat (first | (with_reducible first | exact HB.out | apply below_alloc | apply pw_below_drewN | apply below_drew1) | exact HB.out)) hb); clear HB; have HO117 := n0_; have HB := n1_; clear n0_ n1_; clear hb ho2))
 go_ret
 exact ⟨_, by first | rfl | (simp [errW_none, errW_some] <;> rfl) | (simp [*, errW_none, errW_some] <;> rfl), by (with_reducible repeat (first | apply Kd.R_alloc | apply Kd.R_drewN | apply Kd.R_drew)); exact HO117.out, by repeat (first | (with_reducible first | exact HB.out | apply below_alloc | apply pw_below_drewN | apply below_drew1) | exact HB.out)⟩

end Go.Proofs.Ytenhigpeafaidaa.U
-- Ux9
-- Printed by a program of this session's over the kit's printer, with functions given from outside. Lean checks it.
namespace Go.Proofs.Ytenhigpeafaidaa.U
open Go.RowKit Go.Proofs.YtenhigpeafaidaaW.PrintWords Go.Proofs.YtenhigpeafaidaaW.PrintLast Go.Proofs.YtenhigpeafaidaaW.PrintMore Go.Proofs.Ytenhigpeafaidaa.Q
attribute [local go_sem] max2_int min2_int max_two min_two max_three min_three max_four min_four   -- for this text's walks alone
set_option linter.unusedVariables false
set_option linter.unusedSimpArgs false

/-! ### bandplanref26_At: function 15 -/
def bandplanref26_At.l0 : Nat → List Int → Int → Int → Option (Int)
 | 0, _, _, _ => none
 | k + 1, x3, x4, x119000 => if x4 < (x3.length : Int) then (if 0 ≤ x4 then (if (rd x3 x4) = x119000 then (some x4) else (bandplanref26_At.l0 k x3 (wrap64 (x4 + 1)) x119000)) else (none)) else (some (-1))
def bandplanref26_At.f (k : Nat) (a0_0 : Int) : Option (Int) := (bandplanref26_Cleared.f).bind fun t119 => (bandplanref26_At.l0 k t119 0 a0_0)
theorem bandplanref26_At.mono_l : ∀ k, (∀ y0 y1 y2, LeO (bandplanref26_At.l0 k y0 y1 y2) (bandplanref26_At.l0 (k + 1) y0 y1 y2))
 | 0 => fun _ _ _ r h => by simp [bandplanref26_At.l0] at h
 | k + 1 => by
  have ih0 := bandplanref26_At.mono_l k
  ·
   intro y0 y1 y2
   unfold bandplanref26_At.l0
   repeat' first
   | (with_reducible exact ih0 _ _ _)
   | (with_reducible exact LeO.refl _)
   | (with_reducible exact LeO.none _)
   | (with_reducible refine LeO.ite ?_ ?_)
   | (with_reducible refine LeO.bind ?_ (fun _ => ?_))
   | exact ih0 _ _ _
   | exact LeO.none _
   | refine LeO.ite ?_ ?_
   | refine LeO.bind ?_ (fun _ => ?_)
theorem bandplanref26_At.mono : ∀ a0 k, LeO (bandplanref26_At.f k a0) (bandplanref26_At.f (k + 1) a0) := by
 intro a0 k
 have ih0 := bandplanref26_At.mono_l k
 unfold bandplanref26_At.f
 repeat' first
   | (with_reducible exact ih0 _ _ _)
   | (with_reducible exact LeO.refl _)
   | (with_reducible exact LeO.none _)
   | (with_reducible refine LeO.ite ?_ ?_)
   | (with_reducible refine LeO.bind ?_ (fun _ => ?_))
   | exact ih0 _ _ _
   | exact LeO.none _
   | refine LeO.ite ?_ ?_
   | refine LeO.bind ?_ (fun _ => ?_)
set_option maxHeartbeats 8000000 in
set_option maxRecDepth 100000 in
theorem bandplanref26_At.calls (k : Nat) (a0_0 : Int) (r : Int) (w : World) (h : bandplanref26_At.f k a0_0 = some r) :
  Calls Try.prog 15 #[.agg #[.int .i64 a0_0]] w fun e w' => e = .returned (.int .i64 r) ∧ Below w.heap.size w w' := by
 have hu34 := Try.underlying34
 have HB := Aside0.mk (Below.refl w.heap.size w)
 have H : ((bandplanref26_Cleared.f).bind fun t119 => (bandplanref26_At.l0 k t119 0 a0_0)) = some r := h
 clear h
 replace H := Option.bind_eq_some_iff.mp H
 obtain ⟨t119, A20, H⟩ := H
 replace H : (bandplanref26_At.l0 k t119 0 a0_0) = some r := H
 have A2 := Aside0.mk A20
 clear A20
 have H' := Aside0.mk H
 clear H
 go_enter Try.func15, Try.ntmps15
 go_wp2_with (first | ((with_reducible refine gate_dst (N := 1) rfl ?_); refine box_event ?hg (N := 1) ?hd (cs := #[.int .i64 a0_0]) (t := 34) ?hr ?_; (case hd => rfl); (case hg => rfl); (case hr => first | (go_simp; done) | (go_simp; rfl)); intro gb118 hg w3 hbox hb; have n0_ := Aside0.mk (below_step (by repeat (first | (with_reducible first | exact HB.out | apply below_alloc | apply pw_below_drewN | apply below_drew1) | exact HB.out)) hb); have n1_ := Aside0.mk (hbox); have n2_ := Aside0.mk ((by rw [hg]; exact (below_size (by repeat (first | (with_reducible first | exact HB.out | apply below_alloc | apply pw_below_drewN | apply below_drew1) | exact HB.out))) : w.heap.size ≤ gb118)); have n3_ := Aside0.mk ((by rw [hg]; exact (below_size (by repeat (first | (with_reducible first | exact HB.out | apply below_alloc | apply pw_below_drewN | apply below_drew1) | exact HB.out))) : w.heap.size ≤ gb118)); clear HB; have HB := n0_; have BK118 := n1_; have GW118 := n2_; have GE118 := n3_; clear n0_ n1_ n2_ n3_; clear hb hbox hg) | (go_at_call 30; (with_reducible refine (bandplanref26_Cleared.calls  t119 _ A2.out).mono ?_); rintro e w4 ⟨v120, rfl, ho0, hb⟩; have n0_ := Aside0.mk (Kd.R_lower ho0 (below_size (by repeat (first | (with_reducible first | exact HB.out | apply below_alloc | apply pw_below_drewN | apply below_drew1 | refine below_set ?_ GE118.out) | exact HB.out)))); have n1_ := Aside0.mk (blk_below (g := gb118) (o := .cells #[.int .i64 a0_0] 34 (0, 0)) (by (with_reducible repeat (first | refine blk_drewN ?_ _ | refine blk_drew ?_ | refine blk_alloc ?_ _)); exact BK118.out) hb); have n2_ := Aside0.mk (below_step (by repeat (first | (with_reducible first | exact HB.out | apply below_alloc | apply pw_below_drewN | apply below_drew1 | refine below_set ?_ GE118.out) | exact HB.out)) hb); clear BK118; clear HB; have HO121 := n0_; have BK118 := n1_; have HB := n2_; clear n0_ n1_ n2_; (try clear hb); (try clear hb2); (try clear hk); (try clear hi); (try clear ho0)))
 repeat (go_quiet (first | ((with_reducible refine gate_dst (N := 1) rfl ?_); refine box_event ?hg (N := 1) ?hd (cs := #[.int .i64 a0_0]) (t := 34) ?hr ?_; (case hd => rfl); (case hg => rfl); (case hr => first | (go_simp; done) | (go_simp; rfl)); intro gb118 hg w3 hbox hb; have n0_ := Aside0.mk (below_step (by repeat (first | (with_reducible first | exact HB.out | apply below_alloc | apply pw_below_drewN | apply below_drew1) | exact HB.out)) hb); have n1_ := Aside0.mk (hbox); have n2_ := Aside0.mk ((by rw [hg]; exact (below_size (by repeat (first | (with_reducible first | exact HB.out | apply below_alloc | apply pw_below_drewN | apply below_drew1) | exact HB.out))) : w.heap.size ≤ gb118)); have n3_ := Aside0.mk ((by rw [hg]; exact (below_size (by repeat (first | (with_reducible first | exact HB.out | apply below_alloc | apply pw_below_drewN | apply below_drew1) | exact HB.out))) : w.heap.size ≤ gb118)); clear HB; have HB := n0_; have BK118 := n1_; have GW118 := n2_; have GE118 := n3_; clear n0_ n1_ n2_ n3_; clear hb hbox hg) | (go_at_call 30; (with_reducible refine (bandplanref26_Cleared.calls  t119 _ A2.out).mono ?_); rintro e w4 ⟨v120, rfl, ho0, hb⟩; have n0_ := Aside0.mk (Kd.R_lower ho0 (below_size (by repeat (first | (with_reducible first | exact HB.out | apply below_alloc | apply pw_below_drewN | apply below_drew1 | refine below_set ?_ GE118.out) | exact HB.out)))); have n1_ := Aside0.mk (blk_below (g := gb118) (o := .cells #[.int .i64 a0_0] 34 (0, 0)) (by (with_reducible repeat (first | refine blk_drewN ?_ _ | refine blk_drew ?_ | refine blk_alloc ?_ _)); exact BK118.out) hb); have n2_ := Aside0.mk (below_step (by repeat (first | (with_reducible first | exact HB.out | apply below_alloc | apply pw_below_drewN | apply below_drew1 | refine below_set ?_ GE118.out) | exact HB.out)) hb); clear BK118; clear HB; have HO121 := n0_; have BK118 := n1_; have HB := n2_; clear n0_ n1_ n2_; (try clear hb); (try clear hb2); (try clear hk); (try clear hi); (try clear ho0))); try go_wp2_with (first | ((with_reducible refine gate_dst (N := 1) rfl ?_); refine box_event ?hg (N := 1) ?hd (cs := #[.int .i64 a0_0]) (t := 34) ?hr ?_; (case hd => rfl); (case hg => rfl); (case hr => first | (go_simp; done) | (go_simp; rfl)); intro gb118 hg w3 hbox hb; have n0_ := Aside0.mk (below_step (by repeat (first | (with_reducible first | exact HB.out | apply below_alloc | apply pw_below_drewN | apply below_drew1) | exact HB.out)) hb); have n1_ := Aside0.mk (hbox); have n2_ := Aside0.mk ((by rw [hg]; exact (below_size (by repeat (first | (with_reducible first | exact HB.out | apply below_alloc | apply pw_below_drewN | apply below_drew1) | exact HB.out))) : w.heap.size ≤ gb118)); have n3_ := Aside0.mk ((by rw [hg]; exact (below_size (by repeat (first | (with_reducible first | exact HB.out | apply below_alloc | apply pw_below_drewN | apply below_drew1) | exact HB.out))) : w.heap.size ≤ gb118)); clear HB; have HB := n0_; have BK118 := n1_; have GW118 := n2_; have GE118 := n3_; clear n0_ n1_ n2_ n3_; clear hb hbox hg) | (go_at_call 30; (with_reducible refine (bandplanref26_Cleared.calls  t119 _ A2.out).mono ?_); rintro e w4 ⟨v120, rfl, ho0, hb⟩; have n0_ := Aside0.mk (Kd.R_lower ho0 (below_size (by repeat (first | (with_reducible first | exact HB.out | apply below_alloc | apply pw_below_drewN | apply below_drew1 | refine below_set ?_ GE118.out) | exact HB.out)))); have n1_ := Aside0.mk (blk_below (g := gb118) (o := .cells #[.int .i64 a0_0] 34 (0, 0)) (by (with_reducible repeat (first | refine blk_drewN ?_ _ | refine blk_drew ?_ | refine blk_alloc ?_ _)); exact BK118.out) hb); have n2_ := Aside0.mk (below_step (by repeat (first | (with_reducible first | exact HB.out | apply below_alloc | apply pw_below_drewN | apply below_drew1 | refine below_set ?_ GE118.out) | exact HB.out)) hb); clear BK118; clear HB; have HO121 := n0_; have BK118 := n1_; have HB := n2_; clear n0_ n1_ n2_; (try clear hb); (try clear hb2); (try clear hk); (try clear hi); (try clear ho0))))
 go_loopg [4] k (fun kq v4 w' => ∃ (x4_1 : Int), v4 = .int .i64 x4_1 ∧ Aside0 (bandplanref26_At.l0 kq t119 x4_1 a0_0 = some r) ∧ Aside0 (kq ≤ k) ∧ Aside0 (Kd.R (Kd.int .i64) 3 w' w.heap.size (fun _ => True) v120 t119) ∧ Aside0 (w'.heap[gb118]? = some (.cells #[.int .i64 a0_0] 34 (0, 0))) ∧ Aside0 (Below w.heap.size w w'))
 case atStart => exact ⟨(0), (by first | rfl | (simp; done) | (simp [*]; done)), H', ⟨Nat.le_refl _⟩, ⟨by (with_reducible repeat (first | apply Kd.R_alloc | apply Kd.R_drewN | apply Kd.R_drew)); exact HO121.out⟩, ⟨by (with_reducible repeat (first | refine blk_drewN ?_ _ | refine blk_drew ?_ | refine blk_alloc ?_ _)); exact BK118.out⟩, ⟨by repeat (first | (with_reducible first | exact HB.out | apply below_alloc | apply pw_below_drewN | apply below_drew1 | refine below_set ?_ GE118.out) | exact HB.out)⟩⟩
 case round =>
  clear H'
  try clear c1
  try clear p2
  obtain ⟨x4_1, rfl, HA, HK1, HO_3, BK118, HB⟩ := hrel
  cases gk with
  | zero => exact absurd HA.out (by simp [bandplanref26_At.l0])
  | succ k1 =>
   have H := HA.out
   clear HA
   simp only [bandplanref26_At.l0] at H
   by_cases c5 : x4_1 < (t119.length : Int)
   ·
    rw [if_pos c5] at H
    have c5b0 : decide (x4_1 < (t119.length : Int)) = true := decide_eq_true c5
    clear c5
    by_cases c6 : 0 ≤ x4_1
    ·
     rw [if_pos c6] at H
     have c6b0 : decide (0 ≤ x4_1) = true := decide_eq_true c6
     clear c6
     by_cases c7 : (rd t119 x4_1) = a0_0
     ·
      rw [if_pos c7] at H
      have c7b0 : ((rd t119 x4_1) == a0_0) = true := beq_iff_eq.mpr c7
      have c7b1 : ((rd t119 x4_1) != a0_0) = false := bne_eq_false_iff_eq.mpr c7
      clear c7
      obtain rfl := Option.some.inj H
      obtain ⟨Ao8, co8, eo8⟩ := Kd.R_slice HO_3.out
      subst eo8
      have p122 : 0 ≤ (x4_1 : Int) := of_decide_eq_true (by first | (with_reducible assumption) | assumption)
      have q122 : x4_1 < (t119.length : Int) := of_decide_eq_true (by first | (with_reducible assumption) | assumption)
      obtain ⟨ad122, e122, hx122_0⟩ := Kd.at_int (Kd.R_reads' HO_3.out).2.2 x4_1 p122 q122
      cases e122
      replace p122 := eq_true p122
      replace q122 := eq_true q122
      have hcz9_0 : wr.cell? ⟨gb118, 0, none⟩ = some (.int .i64 a0_0) := (blk_cell BK118.out 0).trans rfl
      have hfz9_0 := blk_frozen BK118.out 0
      go_wp2
      repeat (go_quiet (fail); try go_wp2)
      go_ret
      exact ⟨by first | rfl | (simp [errW_none, errW_some] <;> rfl) | (simp [*, errW_none, errW_some] <;> rfl), by repeat (first | (with_reducible first | exact HB.out | apply below_alloc | apply pw_below_drewN | apply below_drew1 | refine below_set ?_ GE118.out) | exact HB.out)⟩
     ·
      rw [if_neg c7] at H
      have c7b0 : ((rd t119 x4_1) == a0_0) = false := beq_eq_false_iff_ne.mpr c7
      have c7b1 : ((rd t119 x4_1) != a0_0) = true := bne_iff_ne.mpr c7
      have H' := Aside0.mk H
      clear H
      obtain ⟨Ao10, co10, eo10⟩ := Kd.R_slice HO_3.out
      subst eo10
      have p122 : 0 ≤ (x4_1 : Int) := of_decide_eq_true (by first | (with_reducible assumption) | assumption)
      have q122 : x4_1 < (t119.length : Int) := of_decide_eq_true (by first | (with_reducible assumption) | assumption)
      obtain ⟨ad122, e122, hx122_0⟩ := Kd.at_int (Kd.R_reads' HO_3.out).2.2 x4_1 p122 q122
      cases e122
      replace p122 := eq_true p122
      replace q122 := eq_true q122
      have hcz11_0 : wr.cell? ⟨gb118, 0, none⟩ = some (.int .i64 a0_0) := (blk_cell BK118.out 0).trans rfl
      have hfz11_0 := blk_frozen BK118.out 0
      go_wp2
      repeat (go_quiet (fail); try go_wp2)
      go_roundg k1
      case measure => have := HK1.out; omega
      case rel => exact ⟨(wrap64 (x4_1 + 1)), (by first | rfl | (simp; done) | (simp [*]; done)), H', ⟨by have := HK1.out; omega⟩, ⟨by (with_reducible repeat (first | apply Kd.R_alloc | apply Kd.R_drewN | apply Kd.R_drew)); exact HO_3.out⟩, ⟨by (with_reducible repeat (first | refine blk_drewN ?_ _ | refine blk_drew ?_ | refine blk_alloc ?_ _)); exact BK118.out⟩, ⟨by repeat (first | (with_reducible first | exact HB.out | apply below_alloc | apply pw_below_drewN | apply below_drew1 | refine below_set ?_ GE118.out) | exact HB.out)⟩⟩
    ·
     rw [if_neg c6] at H
     exact absurd H (by simp)
   ·
    rw [if_neg c5] at H
    have c5b0 : decide (x4_1 < (t119.length : Int)) = false := decide_eq_false c5
    clear c5
    obtain rfl := Option.some.inj H
    obtain ⟨Ao12, co12, eo12⟩ := Kd.R_slice HO_3.out
    subst eo12
    go_wp2
    repeat (go_quiet (fail); try go_wp2)
    go_ret
    exact ⟨by first | rfl | (simp [errW_none, errW_some] <;> rfl) | (simp [*, errW_none, errW_some] <;> rfl), by repeat (first | (with_reducible first | exact HB.out | apply below_alloc | apply pw_below_drewN | apply below_drew1 | refine below_set ?_ GE118.out) | exact HB.out)⟩

end Go.Proofs.Ytenhigpeafaidaa.U
-- Ux11
-- Printed by a program of this session's over the kit's printer, with functions given from outside. Lean checks it.
namespace Go.Proofs.Ytenhigpeafaidaa.U
open Go.RowKit Go.Proofs.YtenhigpeafaidaaW.PrintWords Go.Proofs.YtenhigpeafaidaaW.PrintLast Go.Proofs.YtenhigpeafaidaaW.PrintMore Go.Proofs.Ytenhigpeafaidaa.Q
attribute [local go_sem] max2_int min2_int max_two min_two max_three min_three max_four min_four   -- for this text's walks alone
set_option linter.unusedVariables false
set_option linter.unusedSimpArgs false

/-! ### bandplanref26_Left: function 40 -/
def bandplanref26_Left.f (a0 : Int) (a1_0 : Int) : Option (Bool) := if a0 < 14 then (some true) else (if a0 ≤ (wrap64 (51 - a1_0)) then (some (a0 != 37)) else (some false))
set_option maxHeartbeats 8000000 in
set_option maxRecDepth 100000 in
theorem bandplanref26_Left.calls (a0 : Int) (a1_0 : Int) (r : Bool) (w : World) (h : bandplanref26_Left.f a0 a1_0 = some r) :
  Calls Try.prog 40 #[.int .i64 a0, .agg #[.int .i64 a1_0]] w fun e w' => e = .returned (.bool r) ∧ Below w.heap.size w w' := by
 have hu34 := Try.underlying34
 have HB := Aside0.mk (Below.refl w.heap.size w)
 have H : (if a0 < 14 then (some true) else (if a0 ≤ (wrap64 (51 - a1_0)) then (some (a0 != 37)) else (some false))) = some r := h
 clear h
 by_cases c3 : a0 < 14
 ·
  rw [if_pos c3] at H
  have c3b0 : decide (a0 < 14) = true := decide_eq_true c3
  clear c3
  obtain rfl := Option.some.inj H
  go_enter Try.func40, Try.ntmps40
  go_wp2_with (first | ((with_reducible refine gate_dst (N := 3) rfl ?_); refine box_event ?hg (N := 3) ?hd (cs := #[.int .i64 a1_0]) (t := 34) ?hr ?_; (case hd => rfl); (case hg => rfl); (case hr => first | (go_simp; done) | (go_simp; rfl)); intro gb125 hg w4 hbox hb; have n0_ := Aside0.mk (below_step (by repeat (first | (with_reducible first | exact HB.out | apply below_alloc | apply pw_below_drewN | apply below_drew1) | exact HB.out)) hb); have n1_ := Aside0.mk (hbox); have n2_ := Aside0.mk ((by rw [hg]; exact (below_size (by repeat (first | (with_reducible first | exact HB.out | apply below_alloc | apply pw_below_drewN | apply below_drew1) | exact HB.out))) : w.heap.size ≤ gb125)); have n3_ := Aside0.mk ((by rw [hg]; exact (below_size (by repeat (first | (with_reducible first | exact HB.out | apply below_alloc | apply pw_below_drewN | apply below_drew1) | exact HB.out))) : w.heap.size ≤ gb125)); clear HB; have HB := n0_; have BK125 := n1_; have GW125 := n2_; have GE125 := n3_; clear n0_ n1_ n2_ n3_; clear hb hbox hg))
  go_ret
  exact ⟨by first | rfl | (simp [errW_none, errW_some] <;> rfl) | (simp [*, errW_none, errW_some] <;> rfl), by repeat (first | (with_reducible first | exact HB.out | apply below_alloc | apply pw_below_drewN | apply below_drew1 | refine below_set ?_ GE125.out) | exact HB.out)⟩
 ·
  rw [if_neg c3] at H
  have c3b0 : decide (a0 < 14) = false := decide_eq_false c3
  clear c3
  by_cases c5 : a0 ≤ (wrap64 (51 - a1_0))
  ·
   rw [if_pos c5] at H
   have c5b0 : decide (a0 ≤ (wrap64 (51 - a1_0))) = true := decide_eq_true c5
   clear c5
   obtain rfl := Option.some.inj H
   go_enter Try.func40, Try.ntmps40
   go_wp2_with (first | ((with_reducible refine gate_dst (N := 3) rfl ?_); refine box_event ?hg (N := 3) ?hd (cs := #[.int .i64 a1_0]) (t := 34) ?hr ?_; (case hd => rfl); (case hg => rfl); (case hr => first | (go_simp; done) | (go_simp; rfl)); intro gb125 hg w6 hbox hb; have n0_ := Aside0.mk (below_step (by repeat (first | (with_reducible first | exact HB.out | apply below_alloc | apply pw_below_drewN | apply below_drew1) | exact HB.out)) hb); have n1_ := Aside0.mk (hbox); have n2_ := Aside0.mk ((by rw [hg]; exact (below_size (by repeat (first | (with_reducible first | exact HB.out | apply below_alloc | apply pw_below_drewN | apply below_drew1) | exact HB.out))) : w.heap.size ≤ gb125)); have n3_ := Aside0.mk ((by rw [hg]; exact (below_size (by repeat (first | (with_reducible first | exact HB.out | apply below_alloc | apply pw_below_drewN | apply below_drew1) | exact HB.out))) : w.heap.size ≤ gb125)); clear HB; have HB := n0_; have BK125 := n1_; have GW125 := n2_; have GE125 := n3_; clear n0_ n1_ n2_ n3_; clear hb hbox hg; have hcz7_0 : w6.cell? ⟨gb125, 0, none⟩ = some (.int .i64 a1_0) := (blk_cell BK125.out 0).trans rfl; have hfz7_0 := blk_frozen BK125.out 0))
   go_ret
   exact ⟨by first | rfl | (simp [errW_none, errW_some] <;> rfl) | (simp [*, errW_none, errW_some] <;> rfl), by repeat (first | (with_reducible first | exact HB.out | apply below_alloc | apply pw_below_drewN | apply below_drew1 | refine below_set ?_ GE125.out) | exact HB.out)⟩
  ·
   rw [if_neg c5] at H
   have c5b0 : decide (a0 ≤ (wrap64 (51 - a1_0))) = false := decide_eq_false c5
   clear c5
   obtain rfl := Option.some.inj H
   go_enter Try.func40, Try.ntmps40
   go_wp2_with (first | ((with_reducible refine gate_dst (N := 3) rfl ?_); refine box_event ?hg (N := 3) ?hd (cs := #[.int .i64 a1_0]) (t := 34) ?hr ?_; (case hd => rfl); (case hg => rfl); (case hr => first | (go_simp; done) | (go_simp; rfl)); intro gb125 hg w8 hbox hb; have n0_ := Aside0.mk (below_step (by repeat (first | (with_reducible first | exact HB.out | apply below_alloc | apply pw_below_drewN | apply below_drew1) | exact HB.out)) hb); have n1_ := Aside0.mk (hbox); have n2_ := Aside0.mk ((by rw [hg]; exact (below_size (by repeat (first | (with_reducible first | exact HB.out | apply below_alloc | apply pw_below_drewN | apply below_drew1) | exact HB.out))) : w.heap.size ≤ gb125)); have n3_ := Aside0.mk ((by rw [hg]; exact (below_size (by repeat (first | (with_reducible first | exact HB.out | apply below_alloc | apply pw_below_drewN | apply below_drew1) | exact HB.out))) : w.heap.size ≤ gb125)); clear HB; have HB := n0_; have BK125 := n1_; have GW125 := n2_; have GE125 := n3_; clear n0_ n1_ n2_ n3_; clear hb hbox hg; have hcz9_0 : w8.cell? ⟨gb125, 0, none⟩ = some (.int .i64 a1_0) := (blk_cell BK125.out 0).trans rfl; have hfz9_0 := blk_frozen BK125.out 0))
   go_ret
   exact ⟨by first | rfl | (simp [errW_none, errW_some] <;> rfl) | (simp [*, errW_none, errW_some] <;> rfl), by repeat (first | (with_reducible first | exact HB.out | apply below_alloc | apply pw_below_drewN | apply below_drew1 | refine below_set ?_ GE125.out) | exact HB.out)⟩

end Go.Proofs.Ytenhigpeafaidaa.U
-- Ux12
-- Printed by a program of this session's over the kit's printer, with functions given from outside. Lean checks it.
namespace Go.Proofs.Ytenhigpeafaidaa.U
open Go.RowKit Go.Proofs.YtenhigpeafaidaaW.PrintWords Go.Proofs.YtenhigpeafaidaaW.PrintLast Go.Proofs.YtenhigpeafaidaaW.PrintMore Go.Proofs.Ytenhigpeafaidaa.Q
attribute [local go_sem] max2_int min2_int max_two min_two max_three min_three max_four min_four   -- for this text's walks alone
set_option linter.unusedVariables false
set_option linter.unusedSimpArgs false

/-! ### bandplanref26_Channels: function 17 -/
def bandplanref26_Channels.l0 : Nat → Int → List Int → Int → Int → Option (List Int)
 | 0, _, _, _, _ => none
 | k + 1, x0, x5, x6, x127000 => if x6 ≤ 51 then ((bandplanref26_Of.f k x6).bind fun t127 => (if t127 = x0 then ((bandplanref26_Left.f x6 x127000).bind fun t128 => (if t128 = true then (if x5.length < 17592186044416 then (bandplanref26_Channels.l0 k x0 (x5 ++ [x6]) (wrap64 (x6 + 1)) x127000) else (none)) else (bandplanref26_Channels.l0 k x0 x5 (wrap64 (x6 + 1)) x127000))) else (bandplanref26_Channels.l0 k x0 x5 (wrap64 (x6 + 1)) x127000))) else (some x5)
def bandplanref26_Channels.f (k : Nat) (a0 : Int) (a1_0 : Int) : Option (List Int) := bandplanref26_Channels.l0 k a0 ([] : List Int) 2 a1_0
theorem bandplanref26_Channels.mono_l : ∀ k, (∀ y0 y1 y2 y3, LeO (bandplanref26_Channels.l0 k y0 y1 y2 y3) (bandplanref26_Channels.l0 (k + 1) y0 y1 y2 y3))
 | 0 => fun _ _ _ _ r h => by simp [bandplanref26_Channels.l0] at h
 | k + 1 => by
  have ih0 := bandplanref26_Channels.mono_l k
  ·
   intro y0 y1 y2 y3
   unfold bandplanref26_Channels.l0
   repeat' first
   | (with_reducible exact ih0 _ _ _ _)
   | (with_reducible exact bandplanref26_Of.mono _ _)
   | (with_reducible exact LeO.refl _)
   | (with_reducible exact LeO.none _)
   | (with_reducible refine LeO.ite ?_ ?_)
   | (with_reducible refine LeO.bind ?_ (fun _ => ?_))
   | exact ih0 _ _ _ _
   | exact bandplanref26_Of.mono _ _
   | exact LeO.none _
   | refine LeO.ite ?_ ?_
   | refine LeO.bind ?_ (fun _ => ?_)
theorem bandplanref26_Channels.mono : ∀ a0 a1 k, LeO (bandplanref26_Channels.f k a0 a1) (bandplanref26_Channels.f (k + 1) a0 a1) := by
 intro a0 a1 k
 have ih0 := bandplanref26_Channels.mono_l k
 unfold bandplanref26_Channels.f
 repeat' first
   | (with_reducible exact ih0 _ _ _ _)
   | (with_reducible exact bandplanref26_Of.mono _ _)
   | (with_reducible exact LeO.refl _)
   | (with_reducible exact LeO.none _)
   | (with_reducible refine LeO.ite ?_ ?_)
   | (with_reducible refine LeO.bind ?_ (fun _ => ?_))
   | exact ih0 _ _ _ _
   | exact bandplanref26_Of.mono _ _
   | exact LeO.none _
   | refine LeO.ite ?_ ?_
   | refine LeO.bind ?_ (fun _ => ?_)
set_option maxHeartbeats 8000000 in
set_option maxRecDepth 100000 in
theorem bandplanref26_Channels.calls (k : Nat) (a0 : Int) (a1_0 : Int) (r : List Int) (w : World) (h : bandplanref26_Channels.f k a0 a1_0 = some r) :
  Calls Try.prog 17 #[.int .i64 a0, .agg #[.int .i64 a1_0]] w fun e w' => ∃ v0_ : Value, e = .returned (v0_) ∧ Kd.R (Kd.int .i64) 3 w' w.heap.size (fun _ => True) v0_ r ∧ Below w.heap.size w w' := by
 have hu34 := Try.underlying34
 have HB := Aside0.mk (Below.refl w.heap.size w)
 have H : (bandplanref26_Channels.l0 k a0 ([] : List Int) 2 a1_0) = some r := h
 clear h
 have H' := Aside0.mk H
 clear H
 go_enter Try.func17, Try.ntmps17
 go_wp2_with (first | ((with_reducible refine gate_dst (N := 3) rfl ?_); refine box_event ?hg (N := 3) ?hd (cs := #[.int .i64 a1_0]) (t := 34) ?hr ?_; (case hd => rfl); (case hg => rfl); (case hr => first | (go_simp; done) | (go_simp; rfl)); intro gb126 hg w3 hbox hb; have n0_ := Aside0.mk (below_step (by repeat (first | (with_reducible first | exact HB.out | apply below_alloc | apply pw_below_drewN | apply below_drew1) | exact HB.out)) hb); have n1_ := Aside0.mk (hbox); have n2_ := Aside0.mk ((by rw [hg]; exact (below_size (by repeat (first | (with_reducible first | exact HB.out | apply below_alloc | apply pw_below_drewN | apply below_drew1) | exact HB.out))) : w.heap.size ≤ gb126)); have n3_ := Aside0.mk ((by rw [hg]; exact (below_size (by repeat (first | (with_reducible first | exact HB.out | apply below_alloc | apply pw_below_drewN | apply below_drew1) | exact HB.out))) : w.heap.size ≤ gb126)); clear HB; have HB := n0_; have BK126 := n1_; have GW126 := n2_; have GE126 := n3_; clear n0_ n1_ n2_ n3_; clear hb hbox hg))
 go_loopg [5, 6] k (fun kq v5 v6 w' => ∃ (x5_1 : List Int) (x6_1 : Int), v6 = .int .i64 x6_1 ∧ Aside0 (bandplanref26_Channels.l0 kq a0 x5_1 x6_1 a1_0 = some r) ∧ Aside0 (kq ≤ k) ∧ Aside0 (Kd.R (Kd.int .i64) 3 w' w.heap.size (fun _ => True) v5 x5_1) ∧ Aside0 (w'.heap[gb126]? = some (.cells #[.int .i64 a1_0] 34 (0, 0))) ∧ Aside0 (Below w.heap.size w w'))
 case atStart => exact ⟨(([] : List Int)), (2), (by first | rfl | (simp; done) | (simp [*]; done)), H', ⟨Nat.le_refl _⟩, ⟨by first | exact Kd.R_nil _ _ _ _ _ | exact Kd.N_nil _ _ _ _ _ | exact Kd.V_nil _ _ _ _ _ | exact Kd.Q_nil _ _ _ _ _ | exact Kd.S_nil _ _ _ _ _⟩, ⟨by (with_reducible repeat (first | refine blk_drewN ?_ _ | refine blk_drew ?_ | refine blk_alloc ?_ _)); exact BK126.out⟩, ⟨by repeat (first | (with_reducible first | exact HB.out | apply below_alloc | apply pw_below_drewN | apply below_drew1 | refine below_set ?_ GE126.out) | exact HB.out)⟩⟩
 case round =>
  clear H'
  try clear c1
  try clear p2
  obtain ⟨x5_1, x6_1, rfl, HA, HK1, HO_5, BK126, HB⟩ := hrel
  cases gk with
  | zero => exact absurd HA.out (by simp [bandplanref26_Channels.l0])
  | succ k1 =>
   have H := HA.out
   clear HA
   simp only [bandplanref26_Channels.l0] at H
   by_cases c4 : x6_1 ≤ 51
   ·
    rw [if_pos c4] at H
    have c4b0 : decide (x6_1 ≤ 51) = true := decide_eq_true c4
    clear c4
    replace H := Option.bind_eq_some_iff.mp H
    obtain ⟨t127, A50, H⟩ := H
    replace H : (if t127 = a0 then ((bandplanref26_Left.f x6_1 a1_0).bind fun t128 => (if t128 = true then (if x5_1.length < 17592186044416 then (bandplanref26_Channels.l0 k1 a0 (x5_1 ++ [x6_1]) (wrap64 (x6_1 + 1)) a1_0) else (none)) else (bandplanref26_Channels.l0 k1 a0 x5_1 (wrap64 (x6_1 + 1)) a1_0))) else (bandplanref26_Channels.l0 k1 a0 x5_1 (wrap64 (x6_1 + 1)) a1_0)) = some r := H
    have A5 := Aside0.mk A50
    clear A50
    by_cases c6 : t127 = a0
    ·
     rw [if_pos c6] at H
     have c6b0 : (t127 == a0) = true := beq_iff_eq.mpr c6
     have c6b1 : (t127 != a0) = false := bne_eq_false_iff_eq.mpr c6
     clear c6
     replace H := Option.bind_eq_some_iff.mp H
     obtain ⟨t128, A70, H⟩ := H
     replace H : (if t128 = true then (if x5_1.length < 17592186044416 then (bandplanref26_Channels.l0 k1 a0 (x5_1 ++ [x6_1]) (wrap64 (x6_1 + 1)) a1_0) else (none)) else (bandplanref26_Channels.l0 k1 a0 x5_1 (wrap64 (x6_1 + 1)) a1_0)) = some r := H
     have A7 := Aside0.mk A70
     clear A70
     by_cases c8 : t128 = true
     ·
      subst c8
      have H1 : (if x5_1.length < 17592186044416 then (bandplanref26_Channels.l0 k1 a0 (x5_1 ++ [x6_1]) (wrap64 (x6_1 + 1)) a1_0) else (none)) = some r := by rw [if_pos rfl] at H; exact H
      clear H
      have H := H1
      clear H1
      by_cases c9 : x5_1.length < 17592186044416
      ·
       rw [if_pos c9] at H
       have LMc9 := Aside0.mk c9
       clear c9
       obtain ⟨y129, hy129⟩ : ∃ y_ : List Int, y_ = (x5_1 ++ [x6_1]) := ⟨_, rfl⟩
       replace H : (bandplanref26_Channels.l0 k1 a0 y129 (wrap64 (x6_1 + 1)) a1_0) = some r := by first | (rw [hy129]; with_reducible exact H) | (have H2_ := (Option.bind_some _ _).symm.trans H; rw [hy129]; with_reducible exact H2_) | (have H2_ := (Option.bind_some _ _).symm.trans H; with_reducible exact H2_) | with_reducible exact H | (rw [hy129]; exact H) | exact H
       have Ny129 := Aside0.mk hy129
       clear hy129
       have H' := Aside0.mk H
       clear H
       go_wp2_with (first | ((with_reducible refine gate_callee (f := 11) rfl ?_); refine goesL_ (some 12) rfl rfl Try.func11 (by kernel_rfl) rfl #[.int .i64 x6_1] rfl (by (try simp only [List.map_toArray, List.map_cons, List.map_nil]); first | done | rfl | (simp only [List.length_drop, List.length_take]; rfl)) ?_; (with_reducible refine (bandplanref26_Of.calls k1 x6_1 t127 _ A5.out).mono ?_); rintro e w' ⟨rfl, ⟨nd, rfl⟩⟩; refine ⟨_, rfl, ?_⟩; have hcz10_0 : wr.cell? ⟨gb126, 0, none⟩ = some (.int .i64 a1_0) := (blk_cell BK126.out 0).trans rfl; have hfz10_0 := blk_frozen BK126.out 0) | (go_at_call 40; (with_reducible refine (bandplanref26_Left.calls x6_1 a1_0 true _ A7.out).mono ?_); rintro e w11 ⟨rfl, hb⟩; have n0_ := Aside0.mk (Kd.R_below (by (with_reducible repeat (first | apply Kd.R_alloc | apply Kd.R_drewN | apply Kd.R_drew)); exact HO_5.out) hb); have n1_ := Aside0.mk (blk_below (g := gb126) (o := .cells #[.int .i64 a1_0] 34 (0, 0)) (by (with_reducible repeat (first | refine blk_drewN ?_ _ | refine blk_drew ?_ | refine blk_alloc ?_ _)); exact BK126.out) hb); have n2_ := Aside0.mk (below_step (by repeat (first | (with_reducible first | exact HB.out | apply below_alloc | apply pw_below_drewN | apply below_drew1 | refine below_set ?_ GE126.out) | exact HB.out)) hb); clear HO_5; clear BK126; clear HB; have HO_5 := n0_; have BK126 := n1_; have HB := n2_; clear n0_ n1_ n2_; (try clear hb); (try clear hb2); (try clear hk); (try clear hi)) | ((with_reducible refine gate_builtin (b := .append) (xs := #[.tmp 20, .tmp 22]) rfl ?_); at_builtin; refine Kd.R_append (Kd.int .i64) (w0 := w) w.heap.size rfl (.tmp 20) (.tmp 22) 30 3 (.int .i64 0) 8 rfl Try.underlying30 info3 rfl (by decide) (by omega) u5 x5_1 x6_1 [.int .i64 x6_1] (fun _ => True) (fun _ => False) rfl rfl ?aP (fun _ hk => hk.elim) ?aF ?aO ?aB ?aS ?aL ?_; (case aP => exact rfl); (case aB => exact (by repeat (first | (with_reducible first | exact HB.out | apply below_alloc | apply pw_below_drewN | apply below_drew1 | refine below_set ?_ GE126.out) | exact HB.out))); (case aF => exact (fun _ _ => trivial)); (case aO => exact (by (with_reducible repeat (first | apply Kd.R_alloc | apply Kd.R_drewN | apply Kd.R_drew)); exact HO_5.out)); (case aS => exact (below_size (by repeat (first | (with_reducible first | exact HB.out | apply below_alloc | apply pw_below_drewN | apply below_drew1 | refine below_set ?_ GE126.out) | exact HB.out)))); (case aL => have := LMc9.out; omega); intro v130 w12 ho hb hg hat; rw [← Ny129.out] at ho; have n0_ := Aside0.mk (blk_grown (g := gb126) (o := .cells #[.int .i64 a1_0] 34 (0, 0)) (by (with_reducible repeat (first | refine blk_drewN ?_ _ | refine blk_drew ?_ | refine blk_alloc ?_ _)); exact BK126.out) hg (Kd.R_ne HO_5.out BK126.out (by decide))); have n1_ := Aside0.mk (hb); have n2_ := Aside0.mk (ho); clear BK126; clear HB; clear HO_5; have BK126 := n0_; have HB := n1_; have HO131 := n2_; clear n0_ n1_ n2_; clear ho hb hg hat))
       go_roundg k1
       case measure => have := HK1.out; omega
       case rel => exact ⟨(y129), (wrap64 (x6_1 + 1)), (by first | rfl | (simp; done) | (simp [*]; done)), H', ⟨by have := HK1.out; omega⟩, ⟨by (with_reducible repeat (first | apply Kd.R_alloc | apply Kd.R_drewN | apply Kd.R_drew)); exact HO131.out⟩, ⟨by (with_reducible repeat (first | refine blk_drewN ?_ _ | refine blk_drew ?_ | refine blk_alloc ?_ _)); exact BK126.out⟩, ⟨by repeat (first | (with_reducible first | exact HB.out | apply below_alloc | apply pw_below_drewN | apply below_drew1 | refine below_set ?_ GE126.out) | exact HB.out)⟩⟩
      ·
       rw [if_neg c9] at H
       exact absurd H (by simp)
     ·
      replace c8 := Bool.eq_false_iff.mpr c8
      subst c8
      have H1 : (bandplanref26_Channels.l0 k1 a0 x5_1 (wrap64 (x6_1 + 1)) a1_0) = some r := by rw [if_neg (show ¬ (false = true) by decide)] at H; exact H
      clear H
      have H := H1
      clear H1
      have H' := Aside0.mk H
      clear H
      go_wp2_with (first | ((with_reducible refine gate_callee (f := 11) rfl ?_); refine goesL_ (some 12) rfl rfl Try.func11 (by kernel_rfl) rfl #[.int .i64 x6_1] rfl (by (try simp only [List.map_toArray, List.map_cons, List.map_nil]); first | done | rfl | (simp only [List.length_drop, List.length_take]; rfl)) ?_; (with_reducible refine (bandplanref26_Of.calls k1 x6_1 t127 _ A5.out).mono ?_); rintro e w' ⟨rfl, ⟨nd, rfl⟩⟩; refine ⟨_, rfl, ?_⟩; have hcz13_0 : wr.cell? ⟨gb126, 0, none⟩ = some (.int .i64 a1_0) := (blk_cell BK126.out 0).trans rfl; have hfz13_0 := blk_frozen BK126.out 0) | (go_at_call 40; (with_reducible refine (bandplanref26_Left.calls x6_1 a1_0 false _ A7.out).mono ?_); rintro e w14 ⟨rfl, hb⟩; have n0_ := Aside0.mk (Kd.R_below (by (with_reducible repeat (first | apply Kd.R_alloc | apply Kd.R_drewN | apply Kd.R_drew)); exact HO_5.out) hb); have n1_ := Aside0.mk (blk_below (g := gb126) (o := .cells #[.int .i64 a1_0] 34 (0, 0)) (by (with_reducible repeat (first | refine blk_drewN ?_ _ | refine blk_drew ?_ | refine blk_alloc ?_ _)); exact BK126.out) hb); have n2_ := Aside0.mk (below_step (by repeat (first | (with_reducible first | exact HB.out | apply below_alloc | apply pw_below_drewN | apply below_drew1 | refine below_set ?_ GE126.out) | exact HB.out)) hb); clear HO_5; clear BK126; clear HB; have HO_5 := n0_; have BK126 := n1_; have HB := n2_; clear n0_ n1_ n2_; (try clear hb); (try clear hb2); (try clear hk); (try clear hi)))
      go_roundg k1
      case measure => have := HK1.out; omega
      case rel => exact ⟨(x5_1), (wrap64 (x6_1 + 1)), (by first | rfl | (simp; done) | (simp [*]; done)), H', ⟨by have := HK1.out; omega⟩, ⟨by (with_reducible repeat (first | apply Kd.R_alloc | apply Kd.R_drewN | apply Kd.R_drew)); exact HO_5.out⟩, ⟨by (with_reducible repeat (first | refine blk_drewN ?_ _ | refine blk_drew ?_ | refine blk_alloc ?_ _)); exact BK126.out⟩, ⟨by repeat (first | (with_reducible first | exact HB.out | apply below_alloc | apply pw_below_drewN | apply below_drew1 | refine below_set ?_ GE126.out) | exact HB.out)⟩⟩
    ·
     rw [if_neg c6] at H
     have c6b0 : (t127 == a0) = false := beq_eq_false_iff_ne.mpr c6
     have c6b1 : (t127 != a0) = true := bne_iff_ne.mpr c6
     have H' := Aside0.mk H
     clear H
     go_wp2_with (first | ((with_reducible refine gate_callee (f := 11) rfl ?_); refine goesL_ (some 12) rfl rfl Try.func11 (by kernel_rfl) rfl #[.int .i64 x6_1] rfl (by (try simp only [List.map_toArray, List.map_cons, List.map_nil]); first | done | rfl | (simp only [List.length_drop, List.length_take]; rfl)) ?_; (with_reducible refine (bandplanref26_Of.calls k1 x6_1 t127 _ A5.out).mono ?_); rintro e w' ⟨rfl, ⟨nd, rfl⟩⟩; refine ⟨_, rfl, ?_⟩))
     go_roundg k1
     case measure => have := HK1.out; omega
     case rel => exact ⟨(x5_1), (wrap64 (x6_1 + 1)), (by first | rfl | (simp; done) | (simp [*]; done)), H', ⟨by have := HK1.out; omega⟩, ⟨by (with_reducible repeat (first | apply Kd.R_alloc | apply Kd.R_drewN | apply Kd.R_drew)); exact HO_5.out⟩, ⟨by (with_reducible repeat (first | refine blk_drewN ?_ _ | refine blk_drew ?_ | refine blk_alloc ?_ _)); exact BK126.out⟩, ⟨by repeat (first | (with_reducible first | exact HB.out | apply below_alloc | apply pw_below_drewN | apply below_drew1 | refine below_set ?_ GE126.out) | exact HB.out)⟩⟩
   ·
    rw [if_neg c4] at H
    have c4b0 : decide (x6_1 ≤ 51) = false := decide_eq_false c4
    clear c4
    obtain rfl := Option.some.inj H
    go_wp2
    go_ret
    exact ⟨_, by first | rfl | (simp [errW_none, errW_some] <;> rfl) | (simp [*, errW_none, errW_some] <;> rfl), by (with_reducible repeat (first | apply Kd.R_alloc | apply Kd.R_drewN | apply Kd.R_drew)); exact HO_5.out, by repeat (first | (with_reducible first | exact HB.out | apply below_alloc | apply pw_below_drewN | apply below_drew1 | refine below_set ?_ GE126.out) | exact HB.out)⟩

end Go.Proofs.Ytenhigpeafaidaa.U
-- Ux10
-- Printed by a program of this session's over the kit's printer, with functions given from outside. Lean checks it.
namespace Go.Proofs.Ytenhigpeafaidaa.U
open Go.RowKit Go.Proofs.YtenhigpeafaidaaW.PrintWords Go.Proofs.YtenhigpeafaidaaW.PrintLast Go.Proofs.YtenhigpeafaidaaW.PrintMore Go.Proofs.Ytenhigpeafaidaa.Q
attribute [local go_sem] max2_int min2_int max_two min_two max_three min_three max_four min_four   -- for this text's walks alone
set_option linter.unusedVariables false
set_option linter.unusedSimpArgs false

/-! ### bandplanref17_SameInts: function 16 -/
def bandplanref17_SameInts.l0 : Nat → List Int → List Int → Int → Option (Bool)
 | 0, _, _, _ => none
 | k + 1, x0, x1, x5 => if x5 < (x0.length : Int) then (if 0 ≤ x5 then (if x5 < (x1.length : Int) then (if (rd x0 x5) = (rd x1 x5) then (bandplanref17_SameInts.l0 k x0 x1 (wrap64 (x5 + 1))) else (some false)) else (none)) else (none)) else (some true)
def bandplanref17_SameInts.f (k : Nat) (l0 : List Int) (l1 : List Int) : Option (Bool) := if (l0.length : Int) = (l1.length : Int) then (bandplanref17_SameInts.l0 k l0 l1 0) else (some false)
theorem bandplanref17_SameInts.mono_l : ∀ k, (∀ y0 y1 y2, LeO (bandplanref17_SameInts.l0 k y0 y1 y2) (bandplanref17_SameInts.l0 (k + 1) y0 y1 y2))
 | 0 => fun _ _ _ r h => by simp [bandplanref17_SameInts.l0] at h
 | k + 1 => by
  have ih0 := bandplanref17_SameInts.mono_l k
  ·
   intro y0 y1 y2
   unfold bandplanref17_SameInts.l0
   repeat' first
   | (with_reducible exact ih0 _ _ _)
   | (with_reducible exact LeO.refl _)
   | (with_reducible exact LeO.none _)
   | (with_reducible refine LeO.ite ?_ ?_)
   | (with_reducible refine LeO.bind ?_ (fun _ => ?_))
   | exact ih0 _ _ _
   | exact LeO.none _
   | refine LeO.ite ?_ ?_
   | refine LeO.bind ?_ (fun _ => ?_)
theorem bandplanref17_SameInts.mono : ∀ a0 a1 k, LeO (bandplanref17_SameInts.f k a0 a1) (bandplanref17_SameInts.f (k + 1) a0 a1) := by
 intro a0 a1 k
 have ih0 := bandplanref17_SameInts.mono_l k
 unfold bandplanref17_SameInts.f
 repeat' first
   | (with_reducible exact ih0 _ _ _)
   | (with_reducible exact LeO.refl _)
   | (with_reducible exact LeO.none _)
   | (with_reducible refine LeO.ite ?_ ?_)
   | (with_reducible refine LeO.bind ?_ (fun _ => ?_))
   | exact ih0 _ _ _
   | exact LeO.none _
   | refine LeO.ite ?_ ?_
   | refine LeO.bind ?_ (fun _ => ?_)
set_option maxHeartbeats 8000000 in
set_option maxRecDepth 100000 in
theorem bandplanref17_SameInts.calls (k : Nat) (A0 : Option Addr) (c0 : Nat) (l0 : List Int) (A1 : Option Addr) (c1 : Nat) (l1 : List Int) (r : Bool) (w : World) (hr0 : Kd.C (Kd.int .i64) w A0 l0.length l0) (hc0 : l0.length ≤ c0) (hr1 : Kd.C (Kd.int .i64) w A1 l1.length l1) (hc1 : l1.length ≤ c1) (h : bandplanref17_SameInts.f k l0 l1 = some r) :
  Calls Try.prog 16 #[.slice A0 l0.length c0, .slice A1 l1.length c1] w fun e w' => e = .returned (.bool r) ∧ Drawn0 w w' := by
 have HR0 := Aside0.mk hr0
 have HC0 := Aside0.mk hc0
 clear hr0 hc0
 have HR1 := Aside0.mk hr1
 have HC1 := Aside0.mk hc1
 clear hr1 hc1
 have H : (if (l0.length : Int) = (l1.length : Int) then (bandplanref17_SameInts.l0 k l0 l1 0) else (some false)) = some r := h
 clear h
 by_cases c3 : (l0.length : Int) = (l1.length : Int)
 ·
  rw [if_pos c3] at H
  have c3b0 : ((l0.length : Int) == (l1.length : Int)) = true := beq_iff_eq.mpr c3
  have c3b1 : ((l0.length : Int) != (l1.length : Int)) = false := bne_eq_false_iff_eq.mpr c3
  have c3b2 : (l0.length == l1.length) = true := by first | simpa using c3 | (simp at c3 ⊢; omega)
  clear c3
  have H' := Aside0.mk H
  clear H
  go_enter Try.func16, Try.ntmps16
  go_wp2
  repeat (go_quiet (fail); try go_wp2)
  go_loopg [5] k (fun kq v5 w' => ∃ (x5_1 : Int), v5 = .int .i64 x5_1 ∧ Aside0 (bandplanref17_SameInts.l0 kq l0 l1 x5_1 = some r) ∧ Aside0 (kq ≤ k) ∧ Drawn0 w w')
  case atStart => exact ⟨(0), (by first | rfl | (simp; done) | (simp [*]; done)), H', ⟨Nat.le_refl _⟩, by repeat (first | exact Drawn0.refl _ | apply Drawn0.step)⟩
  case round =>
   clear H'
   try clear c1
   try clear p2
   try clear c3
   try clear c3b0
   try clear c3b1
   try clear c3b2
   obtain ⟨x5_1, rfl, HA, HK1, ⟨m1, rfl⟩⟩ := hrel
   cases gk with
   | zero => exact absurd HA.out (by simp [bandplanref17_SameInts.l0])
   | succ k1 =>
    have H := HA.out
    clear HA
    simp only [bandplanref17_SameInts.l0] at H
    by_cases c4 : x5_1 < (l0.length : Int)
    ·
     rw [if_pos c4] at H
     have c4b0 : decide (x5_1 < (l0.length : Int)) = true := decide_eq_true c4
     clear c4
     by_cases c5 : 0 ≤ x5_1
     ·
      rw [if_pos c5] at H
      have c5b0 : decide (0 ≤ x5_1) = true := decide_eq_true c5
      clear c5
      by_cases c6 : x5_1 < (l1.length : Int)
      ·
       rw [if_pos c6] at H
       have c6b0 : decide (x5_1 < (l1.length : Int)) = true := decide_eq_true c6
       clear c6
       by_cases c7 : (rd l0 x5_1) = (rd l1 x5_1)
       ·
        rw [if_pos c7] at H
        have c7b0 : ((rd l0 x5_1) == (rd l1 x5_1)) = true := beq_iff_eq.mpr c7
        have c7b1 : ((rd l0 x5_1) != (rd l1 x5_1)) = false := bne_eq_false_iff_eq.mpr c7
        clear c7
        have H' := Aside0.mk H
        clear H
        have p123 : 0 ≤ (x5_1 : Int) := of_decide_eq_true (by first | (with_reducible assumption) | assumption)
        have q123 : x5_1 < (l0.length : Int) := of_decide_eq_true (by first | (with_reducible assumption) | assumption)
        obtain ⟨ad123, e123, hx123_0⟩ := Kd.at_int HR0.out x5_1 p123 q123
        cases e123
        replace p123 := eq_true p123
        replace q123 := eq_true q123
        have p124 : 0 ≤ (x5_1 : Int) := of_decide_eq_true (by first | (with_reducible assumption) | assumption)
        have q124 : x5_1 < (l1.length : Int) := of_decide_eq_true (by first | (with_reducible assumption) | assumption)
        obtain ⟨ad124, e124, hx124_0⟩ := Kd.at_int HR1.out x5_1 p124 q124
        cases e124
        replace p124 := eq_true p124
        replace q124 := eq_true q124
        go_wp2
        repeat (go_quiet (fail); try go_wp2)
        go_roundg k1
        case measure => have := HK1.out; omega
        case rel => exact ⟨(wrap64 (x5_1 + 1)), (by first | rfl | (simp; done) | (simp [*]; done)), H', ⟨by have := HK1.out; omega⟩, by repeat (first | exact Drawn0.refl _ | apply Drawn0.step)⟩
       ·
        rw [if_neg c7] at H
        have c7b0 : ((rd l0 x5_1) == (rd l1 x5_1)) = false := beq_eq_false_iff_ne.mpr c7
        have c7b1 : ((rd l0 x5_1) != (rd l1 x5_1)) = true := bne_iff_ne.mpr c7
        obtain rfl := Option.some.inj H
        have p123 : 0 ≤ (x5_1 : Int) := of_decide_eq_true (by first | (with_reducible assumption) | assumption)
        have q123 : x5_1 < (l0.length : Int) := of_decide_eq_true (by first | (with_reducible assumption) | assumption)
        obtain ⟨ad123, e123, hx123_0⟩ := Kd.at_int HR0.out x5_1 p123 q123
        cases e123
        replace p123 := eq_true p123
        replace q123 := eq_true q123
        have p124 : 0 ≤ (x5_1 : Int) := of_decide_eq_true (by first | (with_reducible assumption) | assumption)
        have q124 : x5_1 < (l1.length : Int) := of_decide_eq_true (by first | (with_reducible assumption) | assumption)
        obtain ⟨ad124, e124, hx124_0⟩ := Kd.at_int HR1.out x5_1 p124 q124
        cases e124
        replace p124 := eq_true p124
        replace q124 := eq_true q124
        go_wp2
        repeat (go_quiet (fail); try go_wp2)
        go_ret
        exact ⟨by first | rfl | (simp; done) | (simp [*]; done), by repeat (first | exact Drawn0.refl _ | apply Drawn0.step)⟩
      ·
       rw [if_neg c6] at H
       exact absurd H (by simp)
     ·
      rw [if_neg c5] at H
      exact absurd H (by simp)
    ·
     rw [if_neg c4] at H
     have c4b0 : decide (x5_1 < (l0.length : Int)) = false := decide_eq_false c4
     clear c4
     obtain rfl := Option.some.inj H
     go_wp2
     repeat (go_quiet (fail); try go_wp2)
     go_ret
     exact ⟨by first | rfl | (simp; done) | (simp [*]; done), by repeat (first | exact Drawn0.refl _ | apply Drawn0.step)⟩
 ·
  rw [if_neg c3] at H
  have c3b0 : ((l0.length : Int) == (l1.length : Int)) = false := beq_eq_false_iff_ne.mpr c3
  have c3b1 : ((l0.length : Int) != (l1.length : Int)) = true := bne_iff_ne.mpr c3
  have c3b2 : (l0.length == l1.length) = false := by first | simpa using c3 | (simp at c3 ⊢; omega)
  obtain rfl := Option.some.inj H
  go_enter Try.func16, Try.ntmps16
  go_wp2
  repeat (go_quiet (fail); try go_wp2)
  go_ret
  exact ⟨by first | rfl | (simp; done) | (simp [*]; done), by repeat (first | exact Drawn0.refl _ | apply Drawn0.step)⟩

end Go.Proofs.Ytenhigpeafaidaa.U
-- Upa
namespace Go.Proofs.Ytenhigpeafaidaa.U
open Go.RowKit Go.Proofs.YtenhigpeafaidaaW.PrintWords Go.Proofs.YtenhigpeafaidaaW.PrintLast Go.Proofs.YtenhigpeafaidaaW.PrintMore Go.Proofs.Ytenhigpeafaidaa.Wire Go.Proofs.Ytenhigpeafaidaa.Q Go.Proofs.Ytenhigpeafaidaa.T
set_option linter.unusedVariables false
set_option linter.unusedSimpArgs false

theorem wf_i64 {n : Int} (h : (Lit.int .i64 n).wf = true) : -9223372036854775808 ≤ n ∧ n ≤ 9223372036854775807 := by
 simp [Lit.wf] at h
 have a1 : IntKind.i64.min = -9223372036854775808 := by rfl
 have a2 : IntKind.i64.max = 9223372036854775807 := by rfl
 omega
theorem at_ev (n : Int) : Ev (fun k => bandplanref26_At.f k n) (ixL n tabL 0) := by
 have aux : ∀ d (i : Nat), i + d = 11 → Ev (fun k => bandplanref26_At.l0 k tabL (i : Int) n) (ixL n (tabL.drop i) i) := by
  intro d
  induction d with
  | zero =>
   intro i hi
   obtain rfl : i = 11 := by omega
   refine Ev.step (fun _ => bandplanref26_At.l0.eq_2 ..) ?_
   simp only [if_neg (show ¬ (((11 : Nat) : Int) < (tabL.length : Int)) by decide)]
   exact Ev.now _
  | succ d ih =>
   intro i hi
   refine Ev.step (fun _ => bandplanref26_At.l0.eq_2 ..) ?_
   have hl : i < tabL.length := by show i < 11; omega
   simp only [if_pos (show (i : Int) < (tabL.length : Int) by omega), if_pos (show (0 : Int) ≤ (i : Int) by omega), rd_nat, wrap_s i (by omega)]
   rw [List.drop_eq_getElem_cons hl, show tabL[i] = tabL.getD i 0 by simp [List.getD, hl]]
   unfold ixL
   by_cases h : n = tabL.getD i 0
   ·
    simp only [if_pos h.symm, if_pos h]; exact Ev.now _
   ·
    simp only [if_neg (fun e => h (Eq.symm e)), if_neg h]; exact ih (i + 1) (by omega)
 exact aux 11 0 rfl
theorem ix_target (n : Int) : (ixL n tabL 0 < 0) = ¬ (isTarget n = true) := by
 unfold isTarget
 rw [eq_iff_iff]
 simp only [ixL, tabL, blk, List.getD_cons_succ, List.getD_cons_zero, decide_eq_true_eq]
 by_cases h : n = 24 ∨ n = 23 ∨ n = 21 ∨ n = 19 ∨ n = 18 ∨ n = 14 ∨ n = 13 ∨ n = 12 ∨ n = 10 ∨ n = 8 ∨ n = 7
 ·
  rcases h with rfl | rfl | rfl | rfl | rfl | rfl | rfl | rfl | rfl | rfl | rfl <;> decide
 ·
  simp only [not_or] at h
  obtain ⟨h1, h2, h3, h4, h5, h6, h7, h8, h9, h10, h11⟩ := h
  simp [h1, h2, h3, h4, h5, h6, h7, h8, h9, h10, h11]
end Go.Proofs.Ytenhigpeafaidaa.U

/- Contracts of the functions that the statements reach, part 3: what each call answers and leaves. Conditions: those that each theorem states. -/
import Derived.Test.YtenhigpeafaidaaGb2
import Derived.Test.YtenhigpeafaidaaProg
import Derived.Below
import Derived.Deep.Draws
import Derived.Deep.AppendLies
import Derived.Maps.AppendAt
import Derived.OwnWalk
import Derived.Laws.BytesArg
import Derived.Laws.MakeOwn
import Derived.Laws.OwnMore
import Derived.Deep.OwnRows
import Derived.Tactics
import Derived.Lib.ConvBytes
import Derived.Laws.Slices
import Derived.WalkKit
import Derived.KernelRfl
import Derived.RowKit3
import Derived.Deep.LoopGhost
import Derived.Deep.QuietTactic
import Derived.BigQuiet
import Derived.WideLaws
import Derived.Deep.DeepCutAuto
import Derived.Deep.CutBlock
import Derived.Deep.RegionHeld3
import Derived.Laws.Rows
import Derived.Lib.AppendStr
import Derived.ArgAppend
import Derived.Laws.IdiomCopy
import Derived.OrdersHeld
import Derived.Laws.BitsLemmas
import Derived.RowKit
-- Qx81
-- Printed by a program of this session's over the kit's printer, with functions given from outside. Lean checks it.
namespace Go.Proofs.Ytenhigpeafaidaa.Q
open Go.RowKit Go.Proofs.YtenhigpeafaidaaW.PrintWords Go.Proofs.YtenhigpeafaidaaW.PrintLast Go.Proofs.YtenhigpeafaidaaW.PrintMore
attribute [local go_sem] max2_int min2_int max_two min_two max_three min_three max_four min_four   -- for this text's walks alone
set_option linter.unusedVariables false
set_option linter.unusedSimpArgs false

/-! ### problem_ValidRules_1: function 65 -/
def problem_ValidRules_1.f (a0_0 : Int) (a0_1 : Int) (a0_2 : Int) (a0_3 : Int) (a0_4 : Int) : Option (Bool) := (problem_station.f a0_0).bind fun t383 => (if t383 = true then ((problem_station.f a0_1).bind fun t384 => (if t384 = true then (if a0_0 < a0_1 then (if a0_2 ≥ (-1) then (if a0_2 ≤ 1 then ((problem_span.f a0_3 a0_4).bind fun t385 => (some t385)) else (some false)) else (some false)) else (some false)) else (some false))) else (some false))
set_option maxHeartbeats 8000000 in
set_option maxRecDepth 100000 in
theorem problem_ValidRules_1.calls (a0_0 : Int) (a0_1 : Int) (a0_2 : Int) (a0_3 : Int) (a0_4 : Int) (r : Bool) (w : World) (h : problem_ValidRules_1.f a0_0 a0_1 a0_2 a0_3 a0_4 = some r) :
  Calls Try.prog 65 #[.agg #[.int .i64 a0_0, .int .i64 a0_1, .int .i64 a0_2, .int .i64 a0_3, .int .i64 a0_4]] w fun e w' => e = .returned (.bool r) ∧ Below w.heap.size w w' := by
 have hu84 := Try.underlying84
 have HB := Aside0.mk (Below.refl w.heap.size w)
 have H : ((problem_station.f a0_0).bind fun t383 => (if t383 = true then ((problem_station.f a0_1).bind fun t384 => (if t384 = true then (if a0_0 < a0_1 then (if a0_2 ≥ (-1) then (if a0_2 ≤ 1 then ((problem_span.f a0_3 a0_4).bind fun t385 => (some t385)) else (some false)) else (some false)) else (some false)) else (some false))) else (some false))) = some r := h
 clear h
 replace H := Option.bind_eq_some_iff.mp H
 obtain ⟨t383, A20, H⟩ := H
 replace H : (if t383 = true then ((problem_station.f a0_1).bind fun t384 => (if t384 = true then (if a0_0 < a0_1 then (if a0_2 ≥ (-1) then (if a0_2 ≤ 1 then ((problem_span.f a0_3 a0_4).bind fun t385 => (some t385)) else (some false)) else (some false)) else (some false)) else (some false))) else (some false)) = some r := H
 have A2 := Aside0.mk A20
 clear A20
 by_cases c3 : t383 = true
 ·
  subst c3
  have H1 : ((problem_station.f a0_1).bind fun t384 => (if t384 = true then (if a0_0 < a0_1 then (if a0_2 ≥ (-1) then (if a0_2 ≤ 1 then ((problem_span.f a0_3 a0_4).bind fun t385 => (some t385)) else (some false)) else (some false)) else (some false)) else (some false))) = some r := by rw [if_pos rfl] at H; exact H
  clear H
  have H := H1
  clear H1
  replace H := Option.bind_eq_some_iff.mp H
  obtain ⟨t384, A40, H⟩ := H
  replace H : (if t384 = true then (if a0_0 < a0_1 then (if a0_2 ≥ (-1) then (if a0_2 ≤ 1 then ((problem_span.f a0_3 a0_4).bind fun t385 => (some t385)) else (some false)) else (some false)) else (some false)) else (some false)) = some r := H
  have A4 := Aside0.mk A40
  clear A40
  by_cases c5 : t384 = true
  ·
   subst c5
   have H1 : (if a0_0 < a0_1 then (if a0_2 ≥ (-1) then (if a0_2 ≤ 1 then ((problem_span.f a0_3 a0_4).bind fun t385 => (some t385)) else (some false)) else (some false)) else (some false)) = some r := by rw [if_pos rfl] at H; exact H
   clear H
   have H := H1
   clear H1
   by_cases c6 : a0_0 < a0_1
   ·
    rw [if_pos c6] at H
    have c6b0 : decide (a0_0 < a0_1) = true := decide_eq_true c6
    clear c6
    by_cases c7 : a0_2 ≥ (-1)
    ·
     rw [if_pos c7] at H
     have c7b0 : decide ((-1) ≤ a0_2) = true := decide_eq_true c7
     clear c7
     by_cases c8 : a0_2 ≤ 1
     ·
      rw [if_pos c8] at H
      have c8b0 : decide (a0_2 ≤ 1) = true := decide_eq_true c8
      clear c8
      replace H := Option.bind_eq_some_iff.mp H
      obtain ⟨t385, A90, H⟩ := H
      replace H : (some t385) = some r := H
      have A9 := Aside0.mk A90
      clear A90
      obtain rfl := Option.some.inj H
      go_enter Try.func65, Try.ntmps65
      go_wp2_with (first | ((with_reducible refine gate_dst (N := 1) rfl ?_); refine box_event ?hg (N := 1) ?hd (cs := #[.int .i64 a0_0, .int .i64 a0_1, .int .i64 a0_2, .int .i64 a0_3, .int .i64 a0_4]) (t := 84) ?hr ?_; (case hd => rfl); (case hg => rfl); (case hr => first | (go_simp; done) | (go_simp; rfl)); intro gb382 hg w10 hbox hb; have n0_ := Aside0.mk (below_step (by repeat (first | (with_reducible first | exact HB.out | apply below_alloc | apply pw_below_drewN | apply below_drew1) | exact HB.out)) hb); have n1_ := Aside0.mk (hbox); have n2_ := Aside0.mk ((by rw [hg]; exact (below_size (by repeat (first | (with_reducible first | exact HB.out | apply below_alloc | apply pw_below_drewN | apply below_drew1) | exact HB.out))) : w.heap.size ≤ gb382)); have n3_ := Aside0.mk ((by rw [hg]; exact (below_size (by repeat (first | (with_reducible first | exact HB.out | apply below_alloc | apply pw_below_drewN | apply below_drew1) | exact HB.out))) : w.heap.size ≤ gb382)); clear HB; have HB := n0_; have BK382 := n1_; have GW382 := n2_; have GE382 := n3_; clear n0_ n1_ n2_ n3_; clear hb hbox hg; have hcz11_0 : w10.cell? ⟨gb382, 0, none⟩ = some (.int .i64 a0_0) := (blk_cell BK382.out 0).trans rfl; have hcz11_1 : w10.cell? ⟨gb382, 1, none⟩ = some (.int .i64 a0_1) := (blk_cell BK382.out 1).trans rfl; have hcz11_2 : w10.cell? ⟨gb382, 2, none⟩ = some (.int .i64 a0_2) := (blk_cell BK382.out 2).trans rfl; have hcz11_3 : w10.cell? ⟨gb382, 3, none⟩ = some (.int .i64 a0_3) := (blk_cell BK382.out 3).trans rfl; have hcz11_4 : w10.cell? ⟨gb382, 4, none⟩ = some (.int .i64 a0_4) := (blk_cell BK382.out 4).trans rfl; have hfz11_0 := blk_frozen BK382.out 0; have hfz11_1 := blk_frozen BK382.out 1; have hfz11_2 := blk_frozen BK382.out 2; have hfz11_3 := blk_frozen BK382.out 3; have hfz11_4 := blk_frozen BK382.out 4) | ((with_reducible refine gate_callee (f := 66) rfl ?_); refine goesL_ (some 5) rfl rfl Try.func66 (by kernel_rfl) rfl #[.int .i64 a0_0] rfl (by (try simp only [List.map_toArray, List.map_cons, List.map_nil]); first | done | rfl | (simp only [List.length_drop, List.length_take]; rfl)) ?_; (with_reducible refine (problem_station.calls a0_0 true _ A2.out).mono ?_); rintro e w' ⟨rfl, ⟨nd, rfl⟩⟩; refine ⟨_, rfl, ?_⟩) | (go_at_call 66; (with_reducible refine (problem_station.calls a0_1 true _ A4.out).mono ?_); rintro e w' ⟨rfl, ⟨nd, rfl⟩⟩) | (go_at_call 67; (with_reducible refine (problem_span.calls a0_3 a0_4 t385 _ A9.out).mono ?_); rintro e w' ⟨rfl, ⟨nd, rfl⟩⟩))
      go_ret
      exact ⟨by first | rfl | (simp [errW_none, errW_some] <;> rfl) | (simp [*, errW_none, errW_some] <;> rfl), by repeat (first | (with_reducible first | exact HB.out | apply below_alloc | apply pw_below_drewN | apply below_drew1 | refine below_set ?_ GE382.out) | exact HB.out)⟩
     ·
      rw [if_neg c8] at H
      have c8b0 : decide (a0_2 ≤ 1) = false := decide_eq_false c8
      clear c8
      obtain rfl := Option.some.inj H
      go_enter Try.func65, Try.ntmps65
      go_wp2_with (first | ((with_reducible refine gate_dst (N := 1) rfl ?_); refine box_event ?hg (N := 1) ?hd (cs := #[.int .i64 a0_0, .int .i64 a0_1, .int .i64 a0_2, .int .i64 a0_3, .int .i64 a0_4]) (t := 84) ?hr ?_; (case hd => rfl); (case hg => rfl); (case hr => first | (go_simp; done) | (go_simp; rfl)); intro gb382 hg w12 hbox hb; have n0_ := Aside0.mk (below_step (by repeat (first | (with_reducible first | exact HB.out | apply below_alloc | apply pw_below_drewN | apply below_drew1) | exact HB.out)) hb); have n1_ := Aside0.mk (hbox); have n2_ := Aside0.mk ((by rw [hg]; exact (below_size (by repeat (first | (with_reducible first | exact HB.out | apply below_alloc | apply pw_below_drewN | apply below_drew1) | exact HB.out))) : w.heap.size ≤ gb382)); have n3_ := Aside0.mk ((by rw [hg]; exact (below_size (by repeat (first | (with_reducible first | exact HB.out | apply below_alloc | apply pw_below_drewN | apply below_drew1) | exact HB.out))) : w.heap.size ≤ gb382)); clear HB; have HB := n0_; have BK382 := n1_; have GW382 := n2_; have GE382 := n3_; clear n0_ n1_ n2_ n3_; clear hb hbox hg; have hcz13_0 : w12.cell? ⟨gb382, 0, none⟩ = some (.int .i64 a0_0) := (blk_cell BK382.out 0).trans rfl; have hcz13_1 : w12.cell? ⟨gb382, 1, none⟩ = some (.int .i64 a0_1) := (blk_cell BK382.out 1).trans rfl; have hcz13_2 : w12.cell? ⟨gb382, 2, none⟩ = some (.int .i64 a0_2) := (blk_cell BK382.out 2).trans rfl; have hcz13_3 : w12.cell? ⟨gb382, 3, none⟩ = some (.int .i64 a0_3) := (blk_cell BK382.out 3).trans rfl; have hcz13_4 : w12.cell? ⟨gb382, 4, none⟩ = some (.int .i64 a0_4) := (blk_cell BK382.out 4).trans rfl; have hfz13_0 := blk_frozen BK382.out 0; have hfz13_1 := blk_frozen BK382.out 1; have hfz13_2 := blk_frozen BK382.out 2; have hfz13_3 := blk_frozen BK382.out 3; have hfz13_4 := blk_frozen BK382.out 4) | ((with_reducible refine gate_callee (f := 66) rfl ?_); refine goesL_ (some 5) rfl rfl Try.func66 (by kernel_rfl) rfl #[.int .i64 a0_0] rfl (by (try simp only [List.map_toArray, List.map_cons, List.map_nil]); first | done | rfl | (simp only [List.length_drop, List.length_take]; rfl)) ?_; (with_reducible refine (problem_station.calls a0_0 true _ A2.out).mono ?_); rintro e w' ⟨rfl, ⟨nd, rfl⟩⟩; refine ⟨_, rfl, ?_⟩) | (go_at_call 66; (with_reducible refine (problem_station.calls a0_1 true _ A4.out).mono ?_); rintro e w' ⟨rfl, ⟨nd, rfl⟩⟩))
      go_ret
      exact ⟨by first | rfl | (simp [errW_none, errW_some] <;> rfl) | (simp [*, errW_none, errW_some] <;> rfl), by repeat (first | (with_reducible first | exact HB.out | apply below_alloc | apply pw_below_drewN | apply below_drew1 | refine below_set ?_ GE382.out) | exact HB.out)⟩
    ·
     rw [if_neg c7] at H
     have c7b0 : decide ((-1) ≤ a0_2) = false := decide_eq_false c7
     clear c7
     obtain rfl := Option.some.inj H
     go_enter Try.func65, Try.ntmps65
     go_wp2_with (first | ((with_reducible refine gate_dst (N := 1) rfl ?_); refine box_event ?hg (N := 1) ?hd (cs := #[.int .i64 a0_0, .int .i64 a0_1, .int .i64 a0_2, .int .i64 a0_3, .int .i64 a0_4]) (t := 84) ?hr ?_; (case hd => rfl); (case hg => rfl); (case hr => first | (go_simp; done) | (go_simp; rfl)); intro gb382 hg w14 hbox hb; have n0_ := Aside0.mk (below_step (by repeat (first | (with_reducible first | exact HB.out | apply below_alloc | apply pw_below_drewN | apply below_drew1) | exact HB.out)) hb); have n1_ := Aside0.mk (hbox); have n2_ := Aside0.mk ((by rw [hg]; exact (below_size (by repeat (first | (with_reducible first | exact HB.out | apply below_alloc | apply pw_below_drewN | apply below_drew1) | exact HB.out))) : w.heap.size ≤ gb382)); have n3_ := Aside0.mk ((by rw [hg]; exact (below_size (by repeat (first | (with_reducible first | exact HB.out | apply below_alloc | apply pw_below_drewN | apply below_drew1) | exact HB.out))) : w.heap.size ≤ gb382)); clear HB; have HB := n0_; have BK382 := n1_; have GW382 := n2_; have GE382 := n3_; clear n0_ n1_ n2_ n3_; clear hb hbox hg; have hcz15_0 : w14.cell? ⟨gb382, 0, none⟩ = some (.int .i64 a0_0) := (blk_cell BK382.out 0).trans rfl; have hcz15_1 : w14.cell? ⟨gb382, 1, none⟩ = some (.int .i64 a0_1) := (blk_cell BK382.out 1).trans rfl; have hcz15_2 : w14.cell? ⟨gb382, 2, none⟩ = some (.int .i64 a0_2) := (blk_cell BK382.out 2).trans rfl; have hcz15_3 : w14.cell? ⟨gb382, 3, none⟩ = some (.int .i64 a0_3) := (blk_cell BK382.out 3).trans rfl; have hcz15_4 : w14.cell? ⟨gb382, 4, none⟩ = some (.int .i64 a0_4) := (blk_cell BK382.out 4).trans rfl; have hfz15_0 := blk_frozen BK382.out 0; have hfz15_1 := blk_frozen BK382.out 1; have hfz15_2 := blk_frozen BK382.out 2; have hfz15_3 := blk_frozen BK382.out 3; have hfz15_4 := blk_frozen BK382.out 4) | ((with_reducible refine gate_callee (f := 66) rfl ?_); refine goesL_ (some 5) rfl rfl Try.func66 (by kernel_rfl) rfl #[.int .i64 a0_0] rfl (by (try simp only [List.map_toArray, List.map_cons, List.map_nil]); first | done | rfl | (simp only [List.length_drop, List.length_take]; rfl)) ?_; (with_reducible refine (problem_station.calls a0_0 true _ A2.out).mono ?_); rintro e w' ⟨rfl, ⟨nd, rfl⟩⟩; refine ⟨_, rfl, ?_⟩) | (go_at_call 66; (with_reducible refine (problem_station.calls a0_1 true _ A4.out).mono ?_); rintro e w' ⟨rfl, ⟨nd, rfl⟩⟩))
     go_ret
     exact ⟨by first | rfl | (simp [errW_none, errW_some] <;> rfl) | (simp [*, errW_none, errW_some] <;> rfl), by repeat (first | (with_reducible first | exact HB.out | apply below_alloc | apply pw_below_drewN | apply below_drew1 | refine below_set ?_ GE382.out) | exact HB.out)⟩
   ·
    rw [if_neg c6] at H
    have c6b0 : decide (a0_0 < a0_1) = false := decide_eq_false c6
    clear c6
    obtain rfl := Option.some.inj H
    go_enter Try.func65, Try.ntmps65
    go_wp2_with (first | ((with_reducible refine gate_dst (N := 1) rfl ?_); refine box_event ?hg (N := 1) ?hd (cs := #[.int .i64 a0_0, .int .i64 a0_1, .int .i64 a0_2, .int .i64 a0_3, .int .i64 a0_4]) (t := 84) ?hr ?_; (case hd => rfl); (case hg => rfl); (case hr => first | (go_simp; done) | (go_simp; rfl)); intro gb382 hg w16 hbox hb; have n0_ := Aside0.mk (below_step (by repeat (first | (with_reducible first | exact HB.out | apply below_alloc | apply pw_below_drewN | apply below_drew1) | exact HB.out)) hb); have n1_ := Aside0.mk (hbox); have n2_ := Aside0.mk ((by rw [hg]; exact (below_size (by repeat (first | (with_reducible first | exact HB.out | apply below_alloc | apply pw_below_drewN | apply below_drew1) | exact HB.out))) : w.heap.size ≤ gb382)); have n3_ := Aside0.mk ((by rw [hg]; exact (below_size (by repeat (first | (with_reducible first | exact HB.out | apply below_alloc | apply pw_below_drewN | apply below_drew1) | exact HB.out))) : w.heap.size ≤ gb382)); clear HB; have HB := n0_; have BK382 := n1_; have GW382 := n2_; have GE382 := n3_; clear n0_ n1_ n2_ n3_; clear hb hbox hg; have hcz17_0 : w16.cell? ⟨gb382, 0, none⟩ = some (.int .i64 a0_0) := (blk_cell BK382.out 0).trans rfl; have hcz17_1 : w16.cell? ⟨gb382, 1, none⟩ = some (.int .i64 a0_1) := (blk_cell BK382.out 1).trans rfl; have hcz17_2 : w16.cell? ⟨gb382, 2, none⟩ = some (.int .i64 a0_2) := (blk_cell BK382.out 2).trans rfl; have hcz17_3 : w16.cell? ⟨gb382, 3, none⟩ = some (.int .i64 a0_3) := (blk_cell BK382.out 3).trans rfl; have hcz17_4 : w16.cell? ⟨gb382, 4, none⟩ = some (.int .i64 a0_4) := (blk_cell BK382.out 4).trans rfl; have hfz17_0 := blk_frozen BK382.out 0; have hfz17_1 := blk_frozen BK382.out 1; have hfz17_2 := blk_frozen BK382.out 2; have hfz17_3 := blk_frozen BK382.out 3; have hfz17_4 := blk_frozen BK382.out 4) | ((with_reducible refine gate_callee (f := 66) rfl ?_); refine goesL_ (some 5) rfl rfl Try.func66 (by kernel_rfl) rfl #[.int .i64 a0_0] rfl (by (try simp only [List.map_toArray, List.map_cons, List.map_nil]); first | done | rfl | (simp only [List.length_drop, List.length_take]; rfl)) ?_; (with_reducible refine (problem_station.calls a0_0 true _ A2.out).mono ?_); rintro e w' ⟨rfl, ⟨nd, rfl⟩⟩; refine ⟨_, rfl, ?_⟩) | (go_at_call 66; (with_reducible refine (problem_station.calls a0_1 true _ A4.out).mono ?_); rintro e w' ⟨rfl, ⟨nd, rfl⟩⟩))
    go_ret
    exact ⟨by first | rfl | (simp [errW_none, errW_some] <;> rfl) | (simp [*, errW_none, errW_some] <;> rfl), by repeat (first | (with_reducible first | exact HB.out | apply below_alloc | apply pw_below_drewN | apply below_drew1 | refine below_set ?_ GE382.out) | exact HB.out)⟩
  ·
   replace c5 := Bool.eq_false_iff.mpr c5
   subst c5
   have H1 : (some false) = some r := by rw [if_neg (show ¬ (false = true) by decide)] at H; exact H
   clear H
   have H := H1
   clear H1
   obtain rfl := Option.some.inj H
   go_enter Try.func65, Try.ntmps65
   go_wp2_with (first | ((with_reducible refine gate_dst (N := 1) rfl ?_); refine box_event ?hg (N := 1) ?hd (cs := #[.int .i64 a0_0, .int .i64 a0_1, .int .i64 a0_2, .int .i64 a0_3, .int .i64 a0_4]) (t := 84) ?hr ?_; (case hd => rfl); (case hg => rfl); (case hr => first | (go_simp; done) | (go_simp; rfl)); intro gb382 hg w18 hbox hb; have n0_ := Aside0.mk (below_step (by repeat (first | (with_reducible first | exact HB.out | apply below_alloc | apply pw_below_drewN | apply below_drew1) | exact HB.out)) hb); have n1_ := Aside0.mk (hbox); have n2_ := Aside0.mk ((by rw [hg]; exact (below_size (by repeat (first | (with_reducible first | exact HB.out | apply below_alloc | apply pw_below_drewN | apply below_drew1) | exact HB.out))) : w.heap.size ≤ gb382)); have n3_ := Aside0.mk ((by rw [hg]; exact (below_size (by repeat (first | (with_reducible first | exact HB.out | apply below_alloc | apply pw_below_drewN | apply below_drew1) | exact HB.out))) : w.heap.size ≤ gb382)); clear HB; have HB := n0_; have BK382 := n1_; have GW382 := n2_; have GE382 := n3_; clear n0_ n1_ n2_ n3_; clear hb hbox hg; have hcz19_0 : w18.cell? ⟨gb382, 0, none⟩ = some (.int .i64 a0_0) := (blk_cell BK382.out 0).trans rfl; have hcz19_1 : w18.cell? ⟨gb382, 1, none⟩ = some (.int .i64 a0_1) := (blk_cell BK382.out 1).trans rfl; have hcz19_2 : w18.cell? ⟨gb382, 2, none⟩ = some (.int .i64 a0_2) := (blk_cell BK382.out 2).trans rfl; have hcz19_3 : w18.cell? ⟨gb382, 3, none⟩ = some (.int .i64 a0_3) := (blk_cell BK382.out 3).trans rfl; have hcz19_4 : w18.cell? ⟨gb382, 4, none⟩ = some (.int .i64 a0_4) := (blk_cell BK382.out 4).trans rfl; have hfz19_0 := blk_frozen BK382.out 0; have hfz19_1 := blk_frozen BK382.out 1; have hfz19_2 := blk_frozen BK382.out 2; have hfz19_3 := blk_frozen BK382.out 3; have hfz19_4 := blk_frozen BK382.out 4) | ((with_reducible refine gate_callee (f := 66) rfl ?_); refine goesL_ (some 5) rfl rfl Try.func66 (by kernel_rfl) rfl #[.int .i64 a0_0] rfl (by (try simp only [List.map_toArray, List.map_cons, List.map_nil]); first | done | rfl | (simp only [List.length_drop, List.length_take]; rfl)) ?_; (with_reducible refine (problem_station.calls a0_0 true _ A2.out).mono ?_); rintro e w' ⟨rfl, ⟨nd, rfl⟩⟩; refine ⟨_, rfl, ?_⟩) | (go_at_call 66; (with_reducible refine (problem_station.calls a0_1 false _ A4.out).mono ?_); rintro e w' ⟨rfl, ⟨nd, rfl⟩⟩))
   go_ret
   exact ⟨by first | rfl | (simp [errW_none, errW_some] <;> rfl) | (simp [*, errW_none, errW_some] <;> rfl), by repeat (first | (with_reducible first | exact HB.out | apply below_alloc | apply pw_below_drewN | apply below_drew1 | refine below_set ?_ GE382.out) | exact HB.out)⟩
 ·
  replace c3 := Bool.eq_false_iff.mpr c3
  subst c3
  have H1 : (some false) = some r := by rw [if_neg (show ¬ (false = true) by decide)] at H; exact H
  clear H
  have H := H1
  clear H1
  obtain rfl := Option.some.inj H
  go_enter Try.func65, Try.ntmps65
  go_wp2_with (first | ((with_reducible refine gate_dst (N := 1) rfl ?_); refine box_event ?hg (N := 1) ?hd (cs := #[.int .i64 a0_0, .int .i64 a0_1, .int .i64 a0_2, .int .i64 a0_3, .int .i64 a0_4]) (t := 84) ?hr ?_; (case hd => rfl); (case hg => rfl); (case hr => first | (go_simp; done) | (go_simp; rfl)); intro gb382 hg w20 hbox hb; have n0_ := Aside0.mk (below_step (by repeat (first | (with_reducible first | exact HB.out | apply below_alloc | apply pw_below_drewN | apply below_drew1) | exact HB.out)) hb); have n1_ := Aside0.mk (hbox); have n2_ := Aside0.mk ((by rw [hg]; exact (below_size (by repeat (first | (with_reducible first | exact HB.out | apply below_alloc | apply pw_below_drewN | apply below_drew1) | exact HB.out))) : w.heap.size ≤ gb382)); have n3_ := Aside0.mk ((by rw [hg]; exact (below_size (by repeat (first | (with_reducible first | exact HB.out | apply below_alloc | apply pw_below_drewN | apply below_drew1) | exact HB.out))) : w.heap.size ≤ gb382)); clear HB; have HB := n0_; have BK382 := n1_; have GW382 := n2_; have GE382 := n3_; clear n0_ n1_ n2_ n3_; clear hb hbox hg; have hcz21_0 : w20.cell? ⟨gb382, 0, none⟩ = some (.int .i64 a0_0) := (blk_cell BK382.out 0).trans rfl; have hcz21_1 : w20.cell? ⟨gb382, 1, none⟩ = some (.int .i64 a0_1) := (blk_cell BK382.out 1).trans rfl; have hcz21_2 : w20.cell? ⟨gb382, 2, none⟩ = some (.int .i64 a0_2) := (blk_cell BK382.out 2).trans rfl; have hcz21_3 : w20.cell? ⟨gb382, 3, none⟩ = some (.int .i64 a0_3) := (blk_cell BK382.out 3).trans rfl; have hcz21_4 : w20.cell? ⟨gb382, 4, none⟩ = some (.int .i64 a0_4) := (blk_cell BK382.out 4).trans rfl; have hfz21_0 := blk_frozen BK382.out 0; have hfz21_1 := blk_frozen BK382.out 1; have hfz21_2 := blk_frozen BK382.out 2; have hfz21_3 := blk_frozen BK382.out 3; have hfz21_4 := blk_frozen BK382.out 4) | ((with_reducible refine gate_callee (f := 66) rfl ?_); refine goesL_ (some 5) rfl rfl Try.func66 (by kernel_rfl) rfl #[.int .i64 a0_0] rfl (by (try simp only [List.map_toArray, List.map_cons, List.map_nil]); first | done | rfl | (simp only [List.length_drop, List.length_take]; rfl)) ?_; (with_reducible refine (problem_station.calls a0_0 false _ A2.out).mono ?_); rintro e w' ⟨rfl, ⟨nd, rfl⟩⟩; refine ⟨_, rfl, ?_⟩))
  go_ret
  exact ⟨by first | rfl | (simp [errW_none, errW_some] <;> rfl) | (simp [*, errW_none, errW_some] <;> rfl), by repeat (first | (with_reducible first | exact HB.out | apply below_alloc | apply pw_below_drewN | apply below_drew1 | refine below_set ?_ GE382.out) | exact HB.out)⟩

end Go.Proofs.Ytenhigpeafaidaa.Q
-- Qx82
-- Printed by a program of this session's over the kit's printer, with functions given from outside. Lean checks it.
namespace Go.Proofs.Ytenhigpeafaidaa.Q
open Go.RowKit Go.Proofs.YtenhigpeafaidaaW.PrintWords Go.Proofs.YtenhigpeafaidaaW.PrintLast Go.Proofs.YtenhigpeafaidaaW.PrintMore
attribute [local go_sem] max2_int min2_int max_two min_two max_three min_three max_four min_four   -- for this text's walks alone
set_option linter.unusedVariables false
set_option linter.unusedSimpArgs false

/-! ### problem_ValidRules_2: function 70 -/
def problem_ValidRules_2.f (a0_0 : Int) (a0_1 : Int) (a0_2 : Int) (a0_3 : Int) (a0_4 : Int) : Option (Bool) := (problem_station.f a0_0).bind fun t387 => (if t387 = true then ((problem_station.f a0_1).bind fun t388 => (if t388 = true then (if a0_0 = a0_1 then (some false) else (if a0_2 ≥ 1 then (if a0_2 ≤ 1073741824 then ((problem_span.f a0_3 a0_4).bind fun t389 => (some t389)) else (some false)) else (some false))) else (some false))) else (some false))
set_option maxHeartbeats 8000000 in
set_option maxRecDepth 100000 in
theorem problem_ValidRules_2.calls (a0_0 : Int) (a0_1 : Int) (a0_2 : Int) (a0_3 : Int) (a0_4 : Int) (r : Bool) (w : World) (h : problem_ValidRules_2.f a0_0 a0_1 a0_2 a0_3 a0_4 = some r) :
  Calls Try.prog 70 #[.agg #[.int .i64 a0_0, .int .i64 a0_1, .int .i64 a0_2, .int .i64 a0_3, .int .i64 a0_4]] w fun e w' => e = .returned (.bool r) ∧ Below w.heap.size w w' := by
 have hu97 := Try.underlying97
 have HB := Aside0.mk (Below.refl w.heap.size w)
 have H : ((problem_station.f a0_0).bind fun t387 => (if t387 = true then ((problem_station.f a0_1).bind fun t388 => (if t388 = true then (if a0_0 = a0_1 then (some false) else (if a0_2 ≥ 1 then (if a0_2 ≤ 1073741824 then ((problem_span.f a0_3 a0_4).bind fun t389 => (some t389)) else (some false)) else (some false))) else (some false))) else (some false))) = some r := h
 clear h
 replace H := Option.bind_eq_some_iff.mp H
 obtain ⟨t387, A20, H⟩ := H
 replace H : (if t387 = true then ((problem_station.f a0_1).bind fun t388 => (if t388 = true then (if a0_0 = a0_1 then (some false) else (if a0_2 ≥ 1 then (if a0_2 ≤ 1073741824 then ((problem_span.f a0_3 a0_4).bind fun t389 => (some t389)) else (some false)) else (some false))) else (some false))) else (some false)) = some r := H
 have A2 := Aside0.mk A20
 clear A20
 by_cases c3 : t387 = true
 ·
  subst c3
  have H1 : ((problem_station.f a0_1).bind fun t388 => (if t388 = true then (if a0_0 = a0_1 then (some false) else (if a0_2 ≥ 1 then (if a0_2 ≤ 1073741824 then ((problem_span.f a0_3 a0_4).bind fun t389 => (some t389)) else (some false)) else (some false))) else (some false))) = some r := by rw [if_pos rfl] at H; exact H
  clear H
  have H := H1
  clear H1
  replace H := Option.bind_eq_some_iff.mp H
  obtain ⟨t388, A40, H⟩ := H
  replace H : (if t388 = true then (if a0_0 = a0_1 then (some false) else (if a0_2 ≥ 1 then (if a0_2 ≤ 1073741824 then ((problem_span.f a0_3 a0_4).bind fun t389 => (some t389)) else (some false)) else (some false))) else (some false)) = some r := H
  have A4 := Aside0.mk A40
  clear A40
  by_cases c5 : t388 = true
  ·
   subst c5
   have H1 : (if a0_0 = a0_1 then (some false) else (if a0_2 ≥ 1 then (if a0_2 ≤ 1073741824 then ((problem_span.f a0_3 a0_4).bind fun t389 => (some t389)) else (some false)) else (some false))) = some r := by rw [if_pos rfl] at H; exact H
   clear H
   have H := H1
   clear H1
   by_cases c6 : a0_0 = a0_1
   ·
    rw [if_pos c6] at H
    have c6b0 : (a0_0 == a0_1) = true := beq_iff_eq.mpr c6
    have c6b1 : (a0_0 != a0_1) = false := bne_eq_false_iff_eq.mpr c6
    clear c6
    obtain rfl := Option.some.inj H
    go_enter Try.func70, Try.ntmps70
    go_wp2_with (first | ((with_reducible refine gate_dst (N := 1) rfl ?_); refine box_event ?hg (N := 1) ?hd (cs := #[.int .i64 a0_0, .int .i64 a0_1, .int .i64 a0_2, .int .i64 a0_3, .int .i64 a0_4]) (t := 97) ?hr ?_; (case hd => rfl); (case hg => rfl); (case hr => first | (go_simp; done) | (go_simp; rfl)); intro gb386 hg w7 hbox hb; have n0_ := Aside0.mk (below_step (by repeat (first | (with_reducible first | exact HB.out | apply below_alloc | apply pw_below_drewN | apply below_drew1) | exact HB.out)) hb); have n1_ := Aside0.mk (hbox); have n2_ := Aside0.mk ((by rw [hg]; exact (below_size (by repeat (first | (with_reducible first | exact HB.out | apply below_alloc | apply pw_below_drewN | apply below_drew1) | exact HB.out))) : w.heap.size ≤ gb386)); have n3_ := Aside0.mk ((by rw [hg]; exact (below_size (by repeat (first | (with_reducible first | exact HB.out | apply below_alloc | apply pw_below_drewN | apply below_drew1) | exact HB.out))) : w.heap.size ≤ gb386)); clear HB; have HB := n0_; have BK386 := n1_; have GW386 := n2_; have GE386 := n3_; clear n0_ n1_ n2_ n3_; clear hb hbox hg; have hcz8_0 : w7.cell? ⟨gb386, 0, none⟩ = some (.int .i64 a0_0) := (blk_cell BK386.out 0).trans rfl; have hcz8_1 : w7.cell? ⟨gb386, 1, none⟩ = some (.int .i64 a0_1) := (blk_cell BK386.out 1).trans rfl; have hcz8_2 : w7.cell? ⟨gb386, 2, none⟩ = some (.int .i64 a0_2) := (blk_cell BK386.out 2).trans rfl; have hcz8_3 : w7.cell? ⟨gb386, 3, none⟩ = some (.int .i64 a0_3) := (blk_cell BK386.out 3).trans rfl; have hcz8_4 : w7.cell? ⟨gb386, 4, none⟩ = some (.int .i64 a0_4) := (blk_cell BK386.out 4).trans rfl; have hfz8_0 := blk_frozen BK386.out 0; have hfz8_1 := blk_frozen BK386.out 1; have hfz8_2 := blk_frozen BK386.out 2; have hfz8_3 := blk_frozen BK386.out 3; have hfz8_4 := blk_frozen BK386.out 4) | ((with_reducible refine gate_callee (f := 66) rfl ?_); refine goesL_ (some 5) rfl rfl Try.func66 (by kernel_rfl) rfl #[.int .i64 a0_0] rfl (by (try simp only [List.map_toArray, List.map_cons, List.map_nil]); first | done | rfl | (simp only [List.length_drop, List.length_take]; rfl)) ?_; (with_reducible refine (problem_station.calls a0_0 true _ A2.out).mono ?_); rintro e w' ⟨rfl, ⟨nd, rfl⟩⟩; refine ⟨_, rfl, ?_⟩) | (go_at_call 66; (with_reducible refine (problem_station.calls a0_1 true _ A4.out).mono ?_); rintro e w' ⟨rfl, ⟨nd, rfl⟩⟩))
    go_ret
    exact ⟨by first | rfl | (simp [errW_none, errW_some] <;> rfl) | (simp [*, errW_none, errW_some] <;> rfl), by repeat (first | (with_reducible first | exact HB.out | apply below_alloc | apply pw_below_drewN | apply below_drew1 | refine below_set ?_ GE386.out) | exact HB.out)⟩
   ·
    rw [if_neg c6] at H
    have c6b0 : (a0_0 == a0_1) = false := beq_eq_false_iff_ne.mpr c6
    have c6b1 : (a0_0 != a0_1) = true := bne_iff_ne.mpr c6
    by_cases c9 : a0_2 ≥ 1
    ·
     rw [if_pos c9] at H
     have c9b0 : decide (1 ≤ a0_2) = true := decide_eq_true c9
     clear c9
     by_cases c10 : a0_2 ≤ 1073741824
     ·
      rw [if_pos c10] at H
      have c10b0 : decide (a0_2 ≤ 1073741824) = true := decide_eq_true c10
      clear c10
      replace H := Option.bind_eq_some_iff.mp H
      obtain ⟨t389, A110, H⟩ := H
      replace H : (some t389) = some r := H
      have A11 := Aside0.mk A110
      clear A110
      obtain rfl := Option.some.inj H
      go_enter Try.func70, Try.ntmps70
      go_wp2_with (first | ((with_reducible refine gate_dst (N := 1) rfl ?_); refine box_event ?hg (N := 1) ?hd (cs := #[.int .i64 a0_0, .int .i64 a0_1, .int .i64 a0_2, .int .i64 a0_3, .int .i64 a0_4]) (t := 97) ?hr ?_; (case hd => rfl); (case hg => rfl); (case hr => first | (go_simp; done) | (go_simp; rfl)); intro gb386 hg w12 hbox hb; have n0_ := Aside0.mk (below_step (by repeat (first | (with_reducible first | exact HB.out | apply below_alloc | apply pw_below_drewN | apply below_drew1) | exact HB.out)) hb); have n1_ := Aside0.mk (hbox); have n2_ := Aside0.mk ((by rw [hg]; exact (below_size (by repeat (first | (with_reducible first | exact HB.out | apply below_alloc | apply pw_below_drewN | apply below_drew1) | exact HB.out))) : w.heap.size ≤ gb386)); have n3_ := Aside0.mk ((by rw [hg]; exact (below_size (by repeat (first | (with_reducible first | exact HB.out | apply below_alloc | apply pw_below_drewN | apply below_drew1) | exact HB.out))) : w.heap.size ≤ gb386)); clear HB; have HB := n0_; have BK386 := n1_; have GW386 := n2_; have GE386 := n3_; clear n0_ n1_ n2_ n3_; clear hb hbox hg; have hcz13_0 : w12.cell? ⟨gb386, 0, none⟩ = some (.int .i64 a0_0) := (blk_cell BK386.out 0).trans rfl; have hcz13_1 : w12.cell? ⟨gb386, 1, none⟩ = some (.int .i64 a0_1) := (blk_cell BK386.out 1).trans rfl; have hcz13_2 : w12.cell? ⟨gb386, 2, none⟩ = some (.int .i64 a0_2) := (blk_cell BK386.out 2).trans rfl; have hcz13_3 : w12.cell? ⟨gb386, 3, none⟩ = some (.int .i64 a0_3) := (blk_cell BK386.out 3).trans rfl; have hcz13_4 : w12.cell? ⟨gb386, 4, none⟩ = some (.int .i64 a0_4) := (blk_cell BK386.out 4).trans rfl; have hfz13_0 := blk_frozen BK386.out 0; have hfz13_1 := blk_frozen BK386.out 1; have hfz13_2 := blk_frozen BK386.out 2; have hfz13_3 := blk_frozen BK386.out 3; have hfz13_4 := blk_frozen BK386.out 4) | ((with_reducible refine gate_callee (f := 66) rfl ?_); refine goesL_ (some 5) rfl rfl Try.func66 (by kernel_rfl) rfl #[.int .i64 a0_0] rfl (by (try simp only [List.map_toArray, List.map_cons, List.map_nil]); first | done | rfl | (simp only [List.length_drop, List.length_take]; rfl)) ?_; (with_reducible refine (problem_station.calls a0_0 true _ A2.out).mono ?_); rintro e w' ⟨rfl, ⟨nd, rfl⟩⟩; refine ⟨_, rfl, ?_⟩) | (go_at_call 66; (with_reducible refine (problem_station.calls a0_1 true _ A4.out).mono ?_); rintro e w' ⟨rfl, ⟨nd, rfl⟩⟩) | (go_at_call 67; (with_reducible refine (problem_span.calls a0_3 a0_4 t389 _ A11.out).mono ?_); rintro e w' ⟨rfl, ⟨nd, rfl⟩⟩))
      go_ret
      exact ⟨by first | rfl | (simp [errW_none, errW_some] <;> rfl) | (simp [*, errW_none, errW_some] <;> rfl), by repeat (first | (with_reducible first | exact HB.out | apply below_alloc | apply pw_below_drewN | apply below_drew1 | refine below_set ?_ GE386.out) | exact HB.out)⟩
     ·
      rw [if_neg c10] at H
      have c10b0 : decide (a0_2 ≤ 1073741824) = false := decide_eq_false c10
      clear c10
      obtain rfl := Option.some.inj H
      go_enter Try.func70, Try.ntmps70
      go_wp2_with (first | ((with_reducible refine gate_dst (N := 1) rfl ?_); refine box_event ?hg (N := 1) ?hd (cs := #[.int .i64 a0_0, .int .i64 a0_1, .int .i64 a0_2, .int .i64 a0_3, .int .i64 a0_4]) (t := 97) ?hr ?_; (case hd => rfl); (case hg => rfl); (case hr => first | (go_simp; done) | (go_simp; rfl)); intro gb386 hg w14 hbox hb; have n0_ := Aside0.mk (below_step (by repeat (first | (with_reducible first | exact HB.out | apply below_alloc | apply pw_below_drewN | apply below_drew1) | exact HB.out)) hb); have n1_ := Aside0.mk (hbox); have n2_ := Aside0.mk ((by rw [hg]; exact (below_size (by repeat (first | (with_reducible first | exact HB.out | apply below_alloc | apply pw_below_drewN | apply below_drew1) | exact HB.out))) : w.heap.size ≤ gb386)); have n3_ := Aside0.mk ((by rw [hg]; exact (below_size (by repeat (first | (with_reducible first | exact HB.out | apply below_alloc | apply pw_below_drewN | apply below_drew1) | exact HB.out))) : w.heap.size ≤ gb386)); clear HB; have HB := n0_; have BK386 := n1_; have GW386 := n2_; have GE386 := n3_; clear n0_ n1_ n2_ n3_; clear hb hbox hg; have hcz15_0 : w14.cell? ⟨gb386, 0, none⟩ = some (.int .i64 a0_0) := (blk_cell BK386.out 0).trans rfl; have hcz15_1 : w14.cell? ⟨gb386, 1, none⟩ = some (.int .i64 a0_1) := (blk_cell BK386.out 1).trans rfl; have hcz15_2 : w14.cell? ⟨gb386, 2, none⟩ = some (.int .i64 a0_2) := (blk_cell BK386.out 2).trans rfl; have hcz15_3 : w14.cell? ⟨gb386, 3, none⟩ = some (.int .i64 a0_3) := (blk_cell BK386.out 3).trans rfl; have hcz15_4 : w14.cell? ⟨gb386, 4, none⟩ = some (.int .i64 a0_4) := (blk_cell BK386.out 4).trans rfl; have hfz15_0 := blk_frozen BK386.out 0; have hfz15_1 := blk_frozen BK386.out 1; have hfz15_2 := blk_frozen BK386.out 2; have hfz15_3 := blk_frozen BK386.out 3; have hfz15_4 := blk_frozen BK386.out 4) | ((with_reducible refine gate_callee (f := 66) rfl ?_); refine goesL_ (some 5) rfl rfl Try.func66 (by kernel_rfl) rfl #[.int .i64 a0_0] rfl (by (try simp only [List.map_toArray, List.map_cons, List.map_nil]); first | done | rfl | (simp only [List.length_drop, List.length_take]; rfl)) ?_; (with_reducible refine (problem_station.calls a0_0 true _ A2.out).mono ?_); rintro e w' ⟨rfl, ⟨nd, rfl⟩⟩; refine ⟨_, rfl, ?_⟩) | (go_at_call 66; (with_reducible refine (problem_station.calls a0_1 true _ A4.out).mono ?_); rintro e w' ⟨rfl, ⟨nd, rfl⟩⟩))
      go_ret
      exact ⟨by first | rfl | (simp [errW_none, errW_some] <;> rfl) | (simp [*, errW_none, errW_some] <;> rfl), by repeat (first | (with_reducible first | exact HB.out | apply below_alloc | apply pw_below_drewN | apply below_drew1 | refine below_set ?_ GE386.out) | exact HB.out)⟩
    ·
     rw [if_neg c9] at H
     have c9b0 : decide (1 ≤ a0_2) = false := decide_eq_false c9
     clear c9
     obtain rfl := Option.some.inj H
     go_enter Try.func70, Try.ntmps70
     go_wp2_with (first | ((with_reducible refine gate_dst (N := 1) rfl ?_); refine box_event ?hg (N := 1) ?hd (cs := #[.int .i64 a0_0, .int .i64 a0_1, .int .i64 a0_2, .int .i64 a0_3, .int .i64 a0_4]) (t := 97) ?hr ?_; (case hd => rfl); (case hg => rfl); (case hr => first | (go_simp; done) | (go_simp; rfl)); intro gb386 hg w16 hbox hb; have n0_ := Aside0.mk (below_step (by repeat (first | (with_reducible first | exact HB.out | apply below_alloc | apply pw_below_drewN | apply below_drew1) | exact HB.out)) hb); have n1_ := Aside0.mk (hbox); have n2_ := Aside0.mk ((by rw [hg]; exact (below_size (by repeat (first | (with_reducible first | exact HB.out | apply below_alloc | apply pw_below_drewN | apply below_drew1) | exact HB.out))) : w.heap.size ≤ gb386)); have n3_ := Aside0.mk ((by rw [hg]; exact (below_size (by repeat (first | (with_reducible first | exact HB.out | apply below_alloc | apply pw_below_drewN | apply below_drew1) | exact HB.out))) : w.heap.size ≤ gb386)); clear HB; have HB := n0_; have BK386 := n1_; have GW386 := n2_; have GE386 := n3_; clear n0_ n1_ n2_ n3_; clear hb hbox hg; have hcz17_0 : w16.cell? ⟨gb386, 0, none⟩ = some (.int .i64 a0_0) := (blk_cell BK386.out 0).trans rfl; have hcz17_1 : w16.cell? ⟨gb386, 1, none⟩ = some (.int .i64 a0_1) := (blk_cell BK386.out 1).trans rfl; have hcz17_2 : w16.cell? ⟨gb386, 2, none⟩ = some (.int .i64 a0_2) := (blk_cell BK386.out 2).trans rfl; have hcz17_3 : w16.cell? ⟨gb386, 3, none⟩ = some (.int .i64 a0_3) := (blk_cell BK386.out 3).trans rfl; have hcz17_4 : w16.cell? ⟨gb386, 4, none⟩ = some (.int .i64 a0_4) := (blk_cell BK386.out 4).trans rfl; have hfz17_0 := blk_frozen BK386.out 0; have hfz17_1 := blk_frozen BK386.out 1; have hfz17_2 := blk_frozen BK386.out 2; have hfz17_3 := blk_frozen BK386.out 3; have hfz17_4 := blk_frozen BK386.out 4) | ((with_reducible refine gate_callee (f := 66) rfl ?_); refine goesL_ (some 5) rfl rfl Try.func66 (by kernel_rfl) rfl #[.int .i64 a0_0] rfl (by (try simp only [List.map_toArray, List.map_cons, List.map_nil]); first | done | rfl | (simp only [List.length_drop, List.length_take]; rfl)) ?_; (with_reducible refine (problem_station.calls a0_0 true _ A2.out).mono ?_); rintro e w' ⟨rfl, ⟨nd, rfl⟩⟩; refine ⟨_, rfl, ?_⟩) | (go_at_call 66; (with_reducible refine (problem_station.calls a0_1 true _ A4.out).mono ?_); rintro e w' ⟨rfl, ⟨nd, rfl⟩⟩))
     go_ret
     exact ⟨by first | rfl | (simp [errW_none, errW_some] <;> rfl) | (simp [*, errW_none, errW_some] <;> rfl), by repeat (first | (with_reducible first | exact HB.out | apply below_alloc | apply pw_below_drewN | apply below_drew1 | refine below_set ?_ GE386.out) | exact HB.out)⟩
  ·
   replace c5 := Bool.eq_false_iff.mpr c5
   subst c5
   have H1 : (some false) = some r := by rw [if_neg (show ¬ (false = true) by decide)] at H; exact H
   clear H
   have H := H1
   clear H1
   obtain rfl := Option.some.inj H
   go_enter Try.func70, Try.ntmps70
   go_wp2_with (first | ((with_reducible refine gate_dst (N := 1) rfl ?_); refine box_event ?hg (N := 1) ?hd (cs := #[.int .i64 a0_0, .int .i64 a0_1, .int .i64 a0_2, .int .i64 a0_3, .int .i64 a0_4]) (t := 97) ?hr ?_; (case hd => rfl); (case hg => rfl); (case hr => first | (go_simp; done) | (go_simp; rfl)); intro gb386 hg w18 hbox hb; have n0_ := Aside0.mk (below_step (by repeat (first | (with_reducible first | exact HB.out | apply below_alloc | apply pw_below_drewN | apply below_drew1) | exact HB.out)) hb); have n1_ := Aside0.mk (hbox); have n2_ := Aside0.mk ((by rw [hg]; exact (below_size (by repeat (first | (with_reducible first | exact HB.out | apply below_alloc | apply pw_below_drewN | apply below_drew1) | exact HB.out))) : w.heap.size ≤ gb386)); have n3_ := Aside0.mk ((by rw [hg]; exact (below_size (by repeat (first | (with_reducible first | exact HB.out | apply below_alloc | apply pw_below_drewN | apply below_drew1) | exact HB.out))) : w.heap.size ≤ gb386)); clear HB; have HB := n0_; have BK386 := n1_; have GW386 := n2_; have GE386 := n3_; clear n0_ n1_ n2_ n3_; clear hb hbox hg; have hcz19_0 : w18.cell? ⟨gb386, 0, none⟩ = some (.int .i64 a0_0) := (blk_cell BK386.out 0).trans rfl; have hcz19_1 : w18.cell? ⟨gb386, 1, none⟩ = some (.int .i64 a0_1) := (blk_cell BK386.out 1).trans rfl; have hcz19_2 : w18.cell? ⟨gb386, 2, none⟩ = some (.int .i64 a0_2) := (blk_cell BK386.out 2).trans rfl; have hcz19_3 : w18.cell? ⟨gb386, 3, none⟩ = some (.int .i64 a0_3) := (blk_cell BK386.out 3).trans rfl; have hcz19_4 : w18.cell? ⟨gb386, 4, none⟩ = some (.int .i64 a0_4) := (blk_cell BK386.out 4).trans rfl; have hfz19_0 := blk_frozen BK386.out 0; have hfz19_1 := blk_frozen BK386.out 1; have hfz19_2 := blk_frozen BK386.out 2; have hfz19_3 := blk_frozen BK386.out 3; have hfz19_4 := blk_frozen BK386.out 4) | ((with_reducible refine gate_callee (f := 66) rfl ?_); refine goesL_ (some 5) rfl rfl Try.func66 (by kernel_rfl) rfl #[.int .i64 a0_0] rfl (by (try simp only [List.map_toArray, List.map_cons, List.map_nil]); first | done | rfl | (simp only [List.length_drop, List.length_take]; rfl)) ?_; (with_reducible refine (problem_station.calls a0_0 true _ A2.out).mono ?_); rintro e w' ⟨rfl, ⟨nd, rfl⟩⟩; refine ⟨_, rfl, ?_⟩) | (go_at_call 66; (with_reducible refine (problem_station.calls a0_1 false _ A4.out).mono ?_); rintro e w' ⟨rfl, ⟨nd, rfl⟩⟩))
   go_ret
   exact ⟨by first | rfl | (simp [errW_none, errW_some] <;> rfl) | (simp [*, errW_none, errW_some] <;> rfl), by repeat (first | (with_reducible first | exact HB.out | apply below_alloc | apply pw_below_drewN | apply below_drew1 | refine below_set ?_ GE386.out) | exact HB.out)⟩
 ·
  replace c3 := Bool.eq_false_iff.mpr c3
  subst c3
  have H1 : (some false) = some r := by rw [if_neg (show ¬ (false = true) by decide)] at H; exact H
  clear H
  have H := H1
  clear H1
  obtain rfl := Option.some.inj H
  go_enter Try.func70, Try.ntmps70
  go_wp2_with (first | ((with_reducible refine gate_dst (N := 1) rfl ?_); refine box_event ?hg (N := 1) ?hd (cs := #[.int .i64 a0_0, .int .i64 a0_1, .int .i64 a0_2, .int .i64 a0_3, .int .i64 a0_4]) (t := 97) ?hr ?_; (case hd => rfl); (case hg => rfl); (case hr => first | (go_simp; done) | (go_simp; rfl)); intro gb386 hg w20 hbox hb; have n0_ := Aside0.mk (below_step (by repeat (first | (with_reducible first | exact HB.out | apply below_alloc | apply pw_below_drewN | apply below_drew1) | exact HB.out)) hb); have n1_ := Aside0.mk (hbox); have n2_ := Aside0.mk ((by rw [hg]; exact (below_size (by repeat (first | (with_reducible first | exact HB.out | apply below_alloc | apply pw_below_drewN | apply below_drew1) | exact HB.out))) : w.heap.size ≤ gb386)); have n3_ := Aside0.mk ((by rw [hg]; exact (below_size (by repeat (first | (with_reducible first | exact HB.out | apply below_alloc | apply pw_below_drewN | apply below_drew1) | exact HB.out))) : w.heap.size ≤ gb386)); clear HB; have HB := n0_; have BK386 := n1_; have GW386 := n2_; have GE386 := n3_; clear n0_ n1_ n2_ n3_; clear hb hbox hg; have hcz21_0 : w20.cell? ⟨gb386, 0, none⟩ = some (.int .i64 a0_0) := (blk_cell BK386.out 0).trans rfl; have hcz21_1 : w20.cell? ⟨gb386, 1, none⟩ = some (.int .i64 a0_1) := (blk_cell BK386.out 1).trans rfl; have hcz21_2 : w20.cell? ⟨gb386, 2, none⟩ = some (.int .i64 a0_2) := (blk_cell BK386.out 2).trans rfl; have hcz21_3 : w20.cell? ⟨gb386, 3, none⟩ = some (.int .i64 a0_3) := (blk_cell BK386.out 3).trans rfl; have hcz21_4 : w20.cell? ⟨gb386, 4, none⟩ = some (.int .i64 a0_4) := (blk_cell BK386.out 4).trans rfl; have hfz21_0 := blk_frozen BK386.out 0; have hfz21_1 := blk_frozen BK386.out 1; have hfz21_2 := blk_frozen BK386.out 2; have hfz21_3 := blk_frozen BK386.out 3; have hfz21_4 := blk_frozen BK386.out 4) | ((with_reducible refine gate_callee (f := 66) rfl ?_); refine goesL_ (some 5) rfl rfl Try.func66 (by kernel_rfl) rfl #[.int .i64 a0_0] rfl (by (try simp only [List.map_toArray, List.map_cons, List.map_nil]); first | done | rfl | (simp only [List.length_drop, List.length_take]; rfl)) ?_; (with_reducible refine (problem_station.calls a0_0 false _ A2.out).mono ?_); rintro e w' ⟨rfl, ⟨nd, rfl⟩⟩; refine ⟨_, rfl, ?_⟩))
  go_ret
  exact ⟨by first | rfl | (simp [errW_none, errW_some] <;> rfl) | (simp [*, errW_none, errW_some] <;> rfl), by repeat (first | (with_reducible first | exact HB.out | apply below_alloc | apply pw_below_drewN | apply below_drew1 | refine below_set ?_ GE386.out) | exact HB.out)⟩

end Go.Proofs.Ytenhigpeafaidaa.Q
-- Qx83
-- Printed by a program of this session's over the kit's printer, with functions given from outside. Lean checks it.
namespace Go.Proofs.Ytenhigpeafaidaa.Q
open Go.RowKit Go.Proofs.YtenhigpeafaidaaW.PrintWords Go.Proofs.YtenhigpeafaidaaW.PrintLast Go.Proofs.YtenhigpeafaidaaW.PrintMore
attribute [local go_sem] max2_int min2_int max_two min_two max_three min_three max_four min_four   -- for this text's walks alone
set_option linter.unusedVariables false
set_option linter.unusedSimpArgs false

/-! ### problem_ValidRules_3: function 73 -/
def problem_ValidRules_3.f (a0_0 : Int) (a0_1 : Int) (a0_2 : Int) (a0_3 : Int) : Option (Bool) := (problem_station.f a0_0).bind fun t391 => (if t391 = true then (if a0_1 ≥ 0 then (if a0_1 ≤ 1099511627776 then ((problem_span.f a0_2 a0_3).bind fun t392 => (some t392)) else (some false)) else (some false)) else (some false))
set_option maxHeartbeats 8000000 in
set_option maxRecDepth 100000 in
theorem problem_ValidRules_3.calls (a0_0 : Int) (a0_1 : Int) (a0_2 : Int) (a0_3 : Int) (r : Bool) (w : World) (h : problem_ValidRules_3.f a0_0 a0_1 a0_2 a0_3 = some r) :
  Calls Try.prog 73 #[.agg #[.int .i64 a0_0, .int .i64 a0_1, .int .i64 a0_2, .int .i64 a0_3]] w fun e w' => e = .returned (.bool r) ∧ Below w.heap.size w w' := by
 have hu99 := Try.underlying99
 have HB := Aside0.mk (Below.refl w.heap.size w)
 have H : ((problem_station.f a0_0).bind fun t391 => (if t391 = true then (if a0_1 ≥ 0 then (if a0_1 ≤ 1099511627776 then ((problem_span.f a0_2 a0_3).bind fun t392 => (some t392)) else (some false)) else (some false)) else (some false))) = some r := h
 clear h
 replace H := Option.bind_eq_some_iff.mp H
 obtain ⟨t391, A20, H⟩ := H
 replace H : (if t391 = true then (if a0_1 ≥ 0 then (if a0_1 ≤ 1099511627776 then ((problem_span.f a0_2 a0_3).bind fun t392 => (some t392)) else (some false)) else (some false)) else (some false)) = some r := H
 have A2 := Aside0.mk A20
 clear A20
 by_cases c3 : t391 = true
 ·
  subst c3
  have H1 : (if a0_1 ≥ 0 then (if a0_1 ≤ 1099511627776 then ((problem_span.f a0_2 a0_3).bind fun t392 => (some t392)) else (some false)) else (some false)) = some r := by rw [if_pos rfl] at H; exact H
  clear H
  have H := H1
  clear H1
  by_cases c4 : a0_1 ≥ 0
  ·
   rw [if_pos c4] at H
   have c4b0 : decide (0 ≤ a0_1) = true := decide_eq_true c4
   clear c4
   by_cases c5 : a0_1 ≤ 1099511627776
   ·
    rw [if_pos c5] at H
    have c5b0 : decide (a0_1 ≤ 1099511627776) = true := decide_eq_true c5
    clear c5
    replace H := Option.bind_eq_some_iff.mp H
    obtain ⟨t392, A60, H⟩ := H
    replace H : (some t392) = some r := H
    have A6 := Aside0.mk A60
    clear A60
    obtain rfl := Option.some.inj H
    go_enter Try.func73, Try.ntmps73
    go_wp2_with (first | ((with_reducible refine gate_dst (N := 1) rfl ?_); refine box_event ?hg (N := 1) ?hd (cs := #[.int .i64 a0_0, .int .i64 a0_1, .int .i64 a0_2, .int .i64 a0_3]) (t := 99) ?hr ?_; (case hd => rfl); (case hg => rfl); (case hr => first | (go_simp; done) | (go_simp; rfl)); intro gb390 hg w7 hbox hb; have n0_ := Aside0.mk (below_step (by repeat (first | (with_reducible first | exact HB.out | apply below_alloc | apply pw_below_drewN | apply below_drew1) | exact HB.out)) hb); have n1_ := Aside0.mk (hbox); have n2_ := Aside0.mk ((by rw [hg]; exact (below_size (by repeat (first | (with_reducible first | exact HB.out | apply below_alloc | apply pw_below_drewN | apply below_drew1) | exact HB.out))) : w.heap.size ≤ gb390)); have n3_ := Aside0.mk ((by rw [hg]; exact (below_size (by repeat (first | (with_reducible first | exact HB.out | apply below_alloc | apply pw_below_drewN | apply below_drew1) | exact HB.out))) : w.heap.size ≤ gb390)); clear HB; have HB := n0_; have BK390 := n1_; have GW390 := n2_; have GE390 := n3_; clear n0_ n1_ n2_ n3_; clear hb hbox hg; have hcz8_0 : w7.cell? ⟨gb390, 0, none⟩ = some (.int .i64 a0_0) := (blk_cell BK390.out 0).trans rfl; have hcz8_1 : w7.cell? ⟨gb390, 1, none⟩ = some (.int .i64 a0_1) := (blk_cell BK390.out 1).trans rfl; have hcz8_2 : w7.cell? ⟨gb390, 2, none⟩ = some (.int .i64 a0_2) := (blk_cell BK390.out 2).trans rfl; have hcz8_3 : w7.cell? ⟨gb390, 3, none⟩ = some (.int .i64 a0_3) := (blk_cell BK390.out 3).trans rfl; have hfz8_0 := blk_frozen BK390.out 0; have hfz8_1 := blk_frozen BK390.out 1; have hfz8_2 := blk_frozen BK390.out 2; have hfz8_3 := blk_frozen BK390.out 3) | ((with_reducible refine gate_callee (f := 66) rfl ?_); refine goesL_ (some 5) rfl rfl Try.func66 (by kernel_rfl) rfl #[.int .i64 a0_0] rfl (by (try simp only [List.map_toArray, List.map_cons, List.map_nil]); first | done | rfl | (simp only [List.length_drop, List.length_take]; rfl)) ?_; (with_reducible refine (problem_station.calls a0_0 true _ A2.out).mono ?_); rintro e w' ⟨rfl, ⟨nd, rfl⟩⟩; refine ⟨_, rfl, ?_⟩) | (go_at_call 67; (with_reducible refine (problem_span.calls a0_2 a0_3 t392 _ A6.out).mono ?_); rintro e w' ⟨rfl, ⟨nd, rfl⟩⟩))
    go_ret
    exact ⟨by first | rfl | (simp [errW_none, errW_some] <;> rfl) | (simp [*, errW_none, errW_some] <;> rfl), by repeat (first | (with_reducible first | exact HB.out | apply below_alloc | apply pw_below_drewN | apply below_drew1 | refine below_set ?_ GE390.out) | exact HB.out)⟩
   ·
    rw [if_neg c5] at H
    have c5b0 : decide (a0_1 ≤ 1099511627776) = false := decide_eq_false c5
    clear c5
    obtain rfl := Option.some.inj H
    go_enter Try.func73, Try.ntmps73
    go_wp2_with (first | ((with_reducible refine gate_dst (N := 1) rfl ?_); refine box_event ?hg (N := 1) ?hd (cs := #[.int .i64 a0_0, .int .i64 a0_1, .int .i64 a0_2, .int .i64 a0_3]) (t := 99) ?hr ?_; (case hd => rfl); (case hg => rfl); (case hr => first | (go_simp; done) | (go_simp; rfl)); intro gb390 hg w9 hbox hb; have n0_ := Aside0.mk (below_step (by repeat (first | (with_reducible first | exact HB.out | apply below_alloc | apply pw_below_drewN | apply below_drew1) | exact HB.out)) hb); have n1_ := Aside0.mk (hbox); have n2_ := Aside0.mk ((by rw [hg]; exact (below_size (by repeat (first | (with_reducible first | exact HB.out | apply below_alloc | apply pw_below_drewN | apply below_drew1) | exact HB.out))) : w.heap.size ≤ gb390)); have n3_ := Aside0.mk ((by rw [hg]; exact (below_size (by repeat (first | (with_reducible first | exact HB.out | apply below_alloc | apply pw_below_drewN | apply below_drew1) | exact HB.out))) : w.heap.size ≤ gb390)); clear HB; have HB := n0_; have BK390 := n1_; have GW390 := n2_; have GE390 := n3_; clear n0_ n1_ n2_ n3_; clear hb hbox hg; have hcz10_0 : w9.cell? ⟨gb390, 0, none⟩ = some (.int .i64 a0_0) := (blk_cell BK390.out 0).trans rfl; have hcz10_1 : w9.cell? ⟨gb390, 1, none⟩ = some (.int .i64 a0_1) := (blk_cell BK390.out 1).trans rfl; have hcz10_2 : w9.cell? ⟨gb390, 2, none⟩ = some (.int .i64 a0_2) := (blk_cell BK390.out 2).trans rfl; have hcz10_3 : w9.cell? ⟨gb390, 3, none⟩ = some (.int .i64 a0_3) := (blk_cell BK390.out 3).trans rfl; have hfz10_0 := blk_frozen BK390.out 0; have hfz10_1 := blk_frozen BK390.out 1; have hfz10_2 := blk_frozen BK390.out 2; have hfz10_3 := blk_frozen BK390.out 3) | ((with_reducible refine gate_callee (f := 66) rfl ?_); refine goesL_ (some 5) rfl rfl Try.func66 (by kernel_rfl) rfl #[.int .i64 a0_0] rfl (by (try simp only [List.map_toArray, List.map_cons, List.map_nil]); first | done | rfl | (simp only [List.length_drop, List.length_take]; rfl)) ?_; (with_reducible refine (problem_station.calls a0_0 true _ A2.out).mono ?_); rintro e w' ⟨rfl, ⟨nd, rfl⟩⟩; refine ⟨_, rfl, ?_⟩))
    go_ret
    exact ⟨by first | rfl | (simp [errW_none, errW_some] <;> rfl) | (simp [*, errW_none, errW_some] <;> rfl), by repeat (first | (with_reducible first | exact HB.out | apply below_alloc | apply pw_below_drewN | apply below_drew1 | refine below_set ?_ GE390.out) | exact HB.out)⟩
  ·
   rw [if_neg c4] at H
   have c4b0 : decide (0 ≤ a0_1) = false := decide_eq_false c4
   clear c4
   obtain rfl := Option.some.inj H
   go_enter Try.func73, Try.ntmps73
   go_wp2_with (first | ((with_reducible refine gate_dst (N := 1) rfl ?_); refine box_event ?hg (N := 1) ?hd (cs := #[.int .i64 a0_0, .int .i64 a0_1, .int .i64 a0_2, .int .i64 a0_3]) (t := 99) ?hr ?_; (case hd => rfl); (case hg => rfl); (case hr => first | (go_simp; done) | (go_simp; rfl)); intro gb390 hg w11 hbox hb; have n0_ := Aside0.mk (below_step (by repeat (first | (with_reducible first | exact HB.out | apply below_alloc | apply pw_below_drewN | apply below_drew1) | exact HB.out)) hb); have n1_ := Aside0.mk (hbox); have n2_ := Aside0.mk ((by rw [hg]; exact (below_size (by repeat (first | (with_reducible first | exact HB.out | apply below_alloc | apply pw_below_drewN | apply below_drew1) | exact HB.out))) : w.heap.size ≤ gb390)); have n3_ := Aside0.mk ((by rw [hg]; exact (below_size (by repeat (first | (with_reducible first | exact HB.out | apply below_alloc | apply pw_below_drewN | apply below_drew1) | exact HB.out))) : w.heap.size ≤ gb390)); clear HB; have HB := n0_; have BK390 := n1_; have GW390 := n2_; have GE390 := n3_; clear n0_ n1_ n2_ n3_; clear hb hbox hg; have hcz12_0 : w11.cell? ⟨gb390, 0, none⟩ = some (.int .i64 a0_0) := (blk_cell BK390.out 0).trans rfl; have hcz12_1 : w11.cell? ⟨gb390, 1, none⟩ = some (.int .i64 a0_1) := (blk_cell BK390.out 1).trans rfl; have hcz12_2 : w11.cell? ⟨gb390, 2, none⟩ = some (.int .i64 a0_2) := (blk_cell BK390.out 2).trans rfl; have hcz12_3 : w11.cell? ⟨gb390, 3, none⟩ = some (.int .i64 a0_3) := (blk_cell BK390.out 3).trans rfl; have hfz12_0 := blk_frozen BK390.out 0; have hfz12_1 := blk_frozen BK390.out 1; have hfz12_2 := blk_frozen BK390.out 2; have hfz12_3 := blk_frozen BK390.out 3) | ((with_reducible refine gate_callee (f := 66) rfl ?_); refine goesL_ (some 5) rfl rfl Try.func66 (by kernel_rfl) rfl #[.int .i64 a0_0] rfl (by (try simp only [List.map_toArray, List.map_cons, List.map_nil]); first | done | rfl | (simp only [List.length_drop, List.length_take]; rfl)) ?_; (with_reducible refine (problem_station.calls a0_0 true _ A2.out).mono ?_); rintro e w' ⟨rfl, ⟨nd, rfl⟩⟩; refine ⟨_, rfl, ?_⟩))
   go_ret
   exact ⟨by first | rfl | (simp [errW_none, errW_some] <;> rfl) | (simp [*, errW_none, errW_some] <;> rfl), by repeat (first | (with_reducible first | exact HB.out | apply below_alloc | apply pw_below_drewN | apply below_drew1 | refine below_set ?_ GE390.out) | exact HB.out)⟩
 ·
  replace c3 := Bool.eq_false_iff.mpr c3
  subst c3
  have H1 : (some false) = some r := by rw [if_neg (show ¬ (false = true) by decide)] at H; exact H
  clear H
  have H := H1
  clear H1
  obtain rfl := Option.some.inj H
  go_enter Try.func73, Try.ntmps73
  go_wp2_with (first | ((with_reducible refine gate_dst (N := 1) rfl ?_); refine box_event ?hg (N := 1) ?hd (cs := #[.int .i64 a0_0, .int .i64 a0_1, .int .i64 a0_2, .int .i64 a0_3]) (t := 99) ?hr ?_; (case hd => rfl); (case hg => rfl); (case hr => first | (go_simp; done) | (go_simp; rfl)); intro gb390 hg w13 hbox hb; have n0_ := Aside0.mk (below_step (by repeat (first | (with_reducible first | exact HB.out | apply below_alloc | apply pw_below_drewN | apply below_drew1) | exact HB.out)) hb); have n1_ := Aside0.mk (hbox); have n2_ := Aside0.mk ((by rw [hg]; exact (below_size (by repeat (first | (with_reducible first | exact HB.out | apply below_alloc | apply pw_below_drewN | apply below_drew1) | exact HB.out))) : w.heap.size ≤ gb390)); have n3_ := Aside0.mk ((by rw [hg]; exact (below_size (by repeat (first | (with_reducible first | exact HB.out | apply below_alloc | apply pw_below_drewN | apply below_drew1) | exact HB.out))) : w.heap.size ≤ gb390)); clear HB; have HB := n0_; have BK390 := n1_; have GW390 := n2_; have GE390 := n3_; clear n0_ n1_ n2_ n3_; clear hb hbox hg; have hcz14_0 : w13.cell? ⟨gb390, 0, none⟩ = some (.int .i64 a0_0) := (blk_cell BK390.out 0).trans rfl; have hcz14_1 : w13.cell? ⟨gb390, 1, none⟩ = some (.int .i64 a0_1) := (blk_cell BK390.out 1).trans rfl; have hcz14_2 : w13.cell? ⟨gb390, 2, none⟩ = some (.int .i64 a0_2) := (blk_cell BK390.out 2).trans rfl; have hcz14_3 : w13.cell? ⟨gb390, 3, none⟩ = some (.int .i64 a0_3) := (blk_cell BK390.out 3).trans rfl; have hfz14_0 := blk_frozen BK390.out 0; have hfz14_1 := blk_frozen BK390.out 1; have hfz14_2 := blk_frozen BK390.out 2; have hfz14_3 := blk_frozen BK390.out 3) | ((with_reducible refine gate_callee (f := 66) rfl ?_); refine goesL_ (some 5) rfl rfl Try.func66 (by kernel_rfl) rfl #[.int .i64 a0_0] rfl (by (try simp only [List.map_toArray, List.map_cons, List.map_nil]); first | done | rfl | (simp only [List.length_drop, List.length_take]; rfl)) ?_; (with_reducible refine (problem_station.calls a0_0 false _ A2.out).mono ?_); rintro e w' ⟨rfl, ⟨nd, rfl⟩⟩; refine ⟨_, rfl, ?_⟩))
  go_ret
  exact ⟨by first | rfl | (simp [errW_none, errW_some] <;> rfl) | (simp [*, errW_none, errW_some] <;> rfl), by repeat (first | (with_reducible first | exact HB.out | apply below_alloc | apply pw_below_drewN | apply below_drew1 | refine below_set ?_ GE390.out) | exact HB.out)⟩

end Go.Proofs.Ytenhigpeafaidaa.Q
-- Qx84
-- Printed by a program of this session's over the kit's printer, with functions given from outside. Lean checks it.
namespace Go.Proofs.Ytenhigpeafaidaa.Q
open Go.RowKit Go.Proofs.YtenhigpeafaidaaW.PrintWords Go.Proofs.YtenhigpeafaidaaW.PrintLast Go.Proofs.YtenhigpeafaidaaW.PrintMore
attribute [local go_sem] max2_int min2_int max_two min_two max_three min_three max_four min_four   -- for this text's walks alone
set_option linter.unusedVariables false
set_option linter.unusedSimpArgs false

/-! ### cmp_Or_int: function 85 -/
def cmp_Or_int.l0 : Nat → Int → List Int → Int → Int → Option (Int)
 | 0, _, _, _, _ => none
 | k + 1, x3, x6, x7, x8 => if x8 < x7 then (if 0 ≤ x8 then (if x8 < (x6.length : Int) then (if (rd x6 x8) = x3 then (cmp_Or_int.l0 k x3 x6 x7 (wrap64 (x8 + 1))) else (some (rd x6 x8))) else (none)) else (none)) else (some x3)
def cmp_Or_int.f (k : Nat) (l0 : List Int) : Option (Int) := cmp_Or_int.l0 k 0 l0 (l0.length : Int) 0
theorem cmp_Or_int.mono_l : ∀ k, (∀ y0 y1 y2 y3, LeO (cmp_Or_int.l0 k y0 y1 y2 y3) (cmp_Or_int.l0 (k + 1) y0 y1 y2 y3))
 | 0 => fun _ _ _ _ r h => by simp [cmp_Or_int.l0] at h
 | k + 1 => by
  have ih0 := cmp_Or_int.mono_l k
  ·
   intro y0 y1 y2 y3
   unfold cmp_Or_int.l0
   repeat' first
   | (with_reducible exact ih0 _ _ _ _)
   | (with_reducible exact LeO.refl _)
   | (with_reducible exact LeO.none _)
   | (with_reducible refine LeO.ite ?_ ?_)
   | (with_reducible refine LeO.bind ?_ (fun _ => ?_))
   | exact ih0 _ _ _ _
   | exact LeO.none _
   | refine LeO.ite ?_ ?_
   | refine LeO.bind ?_ (fun _ => ?_)
theorem cmp_Or_int.mono : ∀ a0 k, LeO (cmp_Or_int.f k a0) (cmp_Or_int.f (k + 1) a0) := by
 intro a0 k
 have ih0 := cmp_Or_int.mono_l k
 unfold cmp_Or_int.f
 repeat' first
   | (with_reducible exact ih0 _ _ _ _)
   | (with_reducible exact LeO.refl _)
   | (with_reducible exact LeO.none _)
   | (with_reducible refine LeO.ite ?_ ?_)
   | (with_reducible refine LeO.bind ?_ (fun _ => ?_))
   | exact ih0 _ _ _ _
   | exact LeO.none _
   | refine LeO.ite ?_ ?_
   | refine LeO.bind ?_ (fun _ => ?_)
set_option maxHeartbeats 8000000 in
set_option maxRecDepth 100000 in
theorem cmp_Or_int.calls (k : Nat) (A0 : Option Addr) (c0 : Nat) (l0 : List Int) (r : Int) (w : World) (hr0 : Kd.C (Kd.int .i64) w A0 l0.length l0) (hc0 : l0.length ≤ c0) (h : cmp_Or_int.f k l0 = some r) :
  Calls Try.prog 85 #[.slice A0 l0.length c0] w fun e w' => e = .returned (.int .i64 r) ∧ Drawn0 w w' := by
 have HR0 := Aside0.mk hr0
 have HC0 := Aside0.mk hc0
 clear hr0 hc0
 have H : (cmp_Or_int.l0 k 0 l0 (l0.length : Int) 0) = some r := h
 clear h
 have H' := Aside0.mk H
 clear H
 go_enter Try.func85, Try.ntmps85
 go_wp2
 go_loopg [8] k (fun kq v8 w' => ∃ (x8_1 : Int), v8 = .int .i64 x8_1 ∧ Aside0 (cmp_Or_int.l0 kq 0 l0 (l0.length : Int) x8_1 = some r) ∧ Aside0 (kq ≤ k) ∧ Drawn0 w w')
 case atStart => exact ⟨(0), (by first | rfl | (simp; done) | (simp [*]; done)), H', ⟨Nat.le_refl _⟩, by repeat (first | exact Drawn0.refl _ | apply Drawn0.step)⟩
 case round =>
  clear H'
  obtain ⟨x8_1, rfl, HA, HK1, ⟨m1, rfl⟩⟩ := hrel
  cases gk with
  | zero => exact absurd HA.out (by simp [cmp_Or_int.l0])
  | succ k1 =>
   have H := HA.out
   clear HA
   simp only [cmp_Or_int.l0] at H
   by_cases c2 : x8_1 < (l0.length : Int)
   ·
    rw [if_pos c2] at H
    have c2b0 : decide (x8_1 < (l0.length : Int)) = true := decide_eq_true c2
    clear c2
    by_cases c3 : 0 ≤ x8_1
    ·
     rw [if_pos c3] at H
     have c3b0 : decide (0 ≤ x8_1) = true := decide_eq_true c3
     clear c3
     by_cases c4 : x8_1 < (l0.length : Int)
     ·
      rw [if_pos c4] at H
      have c4b0 : decide (x8_1 < (l0.length : Int)) = true := decide_eq_true c4
      clear c4
      by_cases c5 : (rd l0 x8_1) = 0
      ·
       rw [if_pos c5] at H
       have c5b0 : ((rd l0 x8_1) == 0) = true := beq_iff_eq.mpr c5
       have c5b1 : ((rd l0 x8_1) != 0) = false := bne_eq_false_iff_eq.mpr c5
       clear c5
       have H' := Aside0.mk H
       clear H
       have p393 : 0 ≤ (x8_1 : Int) := of_decide_eq_true (by first | (with_reducible assumption) | assumption)
       have q393 : x8_1 < (l0.length : Int) := of_decide_eq_true (by first | (with_reducible assumption) | assumption)
       obtain ⟨ad393, e393, hx393_0⟩ := Kd.at_int HR0.out x8_1 p393 q393
       cases e393
       replace p393 := eq_true p393
       replace q393 := eq_true q393
       go_wp2
       go_roundg k1
       case measure => have := HK1.out; omega
       case rel => exact ⟨(wrap64 (x8_1 + 1)), (by first | rfl | (simp; done) | (simp [*]; done)), H', ⟨by have := HK1.out; omega⟩, by repeat (first | exact Drawn0.refl _ | apply Drawn0.step)⟩
      ·
       rw [if_neg c5] at H
       have c5b0 : ((rd l0 x8_1) == 0) = false := beq_eq_false_iff_ne.mpr c5
       have c5b1 : ((rd l0 x8_1) != 0) = true := bne_iff_ne.mpr c5
       obtain rfl := Option.some.inj H
       have p393 : 0 ≤ (x8_1 : Int) := of_decide_eq_true (by first | (with_reducible assumption) | assumption)
       have q393 : x8_1 < (l0.length : Int) := of_decide_eq_true (by first | (with_reducible assumption) | assumption)
       obtain ⟨ad393, e393, hx393_0⟩ := Kd.at_int HR0.out x8_1 p393 q393
       cases e393
       replace p393 := eq_true p393
       replace q393 := eq_true q393
       go_wp2
       go_ret
       exact ⟨by first | rfl | (simp; done) | (simp [*]; done), by repeat (first | exact Drawn0.refl _ | apply Drawn0.step)⟩
     ·
      rw [if_neg c4] at H
      exact absurd H (by simp)
    ·
     rw [if_neg c3] at H
     exact absurd H (by simp)
   ·
    rw [if_neg c2] at H
    have c2b0 : decide (x8_1 < (l0.length : Int)) = false := decide_eq_false c2
    clear c2
    obtain rfl := Option.some.inj H
    go_wp2
    go_ret
    exact ⟨by first | rfl | (simp; done) | (simp [*]; done), by repeat (first | exact Drawn0.refl _ | apply Drawn0.step)⟩

end Go.Proofs.Ytenhigpeafaidaa.Q
-- Qx85
-- Printed by a program of this session's over the kit's printer, with functions given from outside. Lean checks it.
namespace Go.Proofs.Ytenhigpeafaidaa.Q
open Go.RowKit Go.Proofs.YtenhigpeafaidaaW.PrintWords Go.Proofs.YtenhigpeafaidaaW.PrintLast Go.Proofs.YtenhigpeafaidaaW.PrintMore
attribute [local go_sem] max2_int min2_int max_two min_two max_three min_three max_four min_four   -- for this text's walks alone
set_option linter.unusedVariables false
set_option linter.unusedSimpArgs false

/-! ### problem_pairs: function 68 -/
def problem_pairs.f (k : Nat) (a0_0 : Int) (a0_1 : Int) (a0_2 : Int) (a0_3 : Int) (a0_4 : Int) (a1_0 : Int) (a1_1 : Int) (a1_2 : Int) (a1_3 : Int) (a1_4 : Int) : Option (Int) := (cmp_Or_int.f k (([wrap64 (a0_0 - a1_0), wrap64 (a0_1 - a1_1), wrap64 (a0_2 - a1_2), wrap64 (a0_3 - a1_3), wrap64 (a0_4 - a1_4)] : List Int))).bind fun t399 => (some t399)
theorem problem_pairs.mono : ∀ a0 a1 a2 a3 a4 a5 a6 a7 a8 a9 k, LeO (problem_pairs.f k a0 a1 a2 a3 a4 a5 a6 a7 a8 a9) (problem_pairs.f (k + 1) a0 a1 a2 a3 a4 a5 a6 a7 a8 a9) := by
 intro a0 a1 a2 a3 a4 a5 a6 a7 a8 a9 k
 unfold problem_pairs.f
 repeat' first
   | (with_reducible exact cmp_Or_int.mono _ _)
   | (with_reducible exact LeO.refl _)
   | (with_reducible exact LeO.none _)
   | (with_reducible refine LeO.ite ?_ ?_)
   | (with_reducible refine LeO.bind ?_ (fun _ => ?_))
   | exact cmp_Or_int.mono _ _
   | exact LeO.none _
   | refine LeO.ite ?_ ?_
   | refine LeO.bind ?_ (fun _ => ?_)
set_option maxHeartbeats 8000000 in
set_option maxRecDepth 100000 in
theorem problem_pairs.calls (k : Nat) (a0_0 : Int) (a0_1 : Int) (a0_2 : Int) (a0_3 : Int) (a0_4 : Int) (a1_0 : Int) (a1_1 : Int) (a1_2 : Int) (a1_3 : Int) (a1_4 : Int) (r : Int) (w : World) (h : problem_pairs.f k a0_0 a0_1 a0_2 a0_3 a0_4 a1_0 a1_1 a1_2 a1_3 a1_4 = some r) :
  Calls Try.prog 68 #[.agg #[.int .i64 a0_0, .int .i64 a0_1, .int .i64 a0_2, .int .i64 a0_3, .int .i64 a0_4], .agg #[.int .i64 a1_0, .int .i64 a1_1, .int .i64 a1_2, .int .i64 a1_3, .int .i64 a1_4]] w fun e w' => e = .returned (.int .i64 r) ∧ Below w.heap.size w w' := by
 have hu84 := Try.underlying84
 have HB := Aside0.mk (Below.refl w.heap.size w)
 have H : ((cmp_Or_int.f k (([wrap64 (a0_0 - a1_0), wrap64 (a0_1 - a1_1), wrap64 (a0_2 - a1_2), wrap64 (a0_3 - a1_3), wrap64 (a0_4 - a1_4)] : List Int))).bind fun t399 => (some t399)) = some r := h
 clear h
 obtain ⟨y396, hy396⟩ : ∃ y_ : List Int, y_ = (([wrap64 (a0_0 - a1_0), wrap64 (a0_1 - a1_1), wrap64 (a0_2 - a1_2), wrap64 (a0_3 - a1_3), wrap64 (a0_4 - a1_4)] : List Int)) := ⟨_, rfl⟩
 replace H : ((cmp_Or_int.f k y396).bind fun t399 => (some t399)) = some r := by first | (rw [hy396]; with_reducible exact H) | (have H2_ := (Option.bind_some _ _).symm.trans H; rw [hy396]; with_reducible exact H2_) | (have H2_ := (Option.bind_some _ _).symm.trans H; with_reducible exact H2_) | with_reducible exact H | (rw [hy396]; exact H) | exact H
 have Ny396 := Aside0.mk hy396
 clear hy396
 replace H := Option.bind_eq_some_iff.mp H
 obtain ⟨t399, A30, H⟩ := H
 replace H : (some t399) = some r := H
 have A3 := Aside0.mk A30
 clear A30
 obtain rfl := Option.some.inj H
 go_enter Try.func68, Try.ntmps68
 go_wp2_with (first | ((with_reducible refine gate_dst (N := 2) rfl ?_); refine box_event ?hg (N := 2) ?hd (cs := #[.int .i64 a0_0, .int .i64 a0_1, .int .i64 a0_2, .int .i64 a0_3, .int .i64 a0_4]) (t := 84) ?hr ?_; (case hd => rfl); (case hg => rfl); (case hr => first | (go_simp; done) | (go_simp; rfl)); intro gb394 hg w4 hbox hb; have n0_ := Aside0.mk (below_step (by repeat (first | (with_reducible first | exact HB.out | apply below_alloc | apply pw_below_drewN | apply below_drew1) | exact HB.out)) hb); have n1_ := Aside0.mk (hbox); have n2_ := Aside0.mk ((by rw [hg]; exact (below_size (by repeat (first | (with_reducible first | exact HB.out | apply below_alloc | apply pw_below_drewN | apply below_drew1) | exact HB.out))) : w.heap.size ≤ gb394)); have n3_ := Aside0.mk ((by rw [hg]; exact (below_size (by repeat (first | (with_reducible first | exact HB.out | apply below_alloc | apply pw_below_drewN | apply below_drew1) | exact HB.out))) : w.heap.size ≤ gb394)); clear HB; have HB := n0_; have BK394 := n1_; have GW394 := n2_; have GE394 := n3_; clear n0_ n1_ n2_ n3_; clear hb hbox hg) | ((with_reducible refine gate_dst (N := 3) rfl ?_); refine box_event ?hg (N := 3) ?hd (cs := #[.int .i64 a1_0, .int .i64 a1_1, .int .i64 a1_2, .int .i64 a1_3, .int .i64 a1_4]) (t := 84) ?hr ?_; (case hd => rfl); (case hg => rfl); (case hr => first | (go_simp; done) | (go_simp; rfl)); intro gb395 hg w5 hbox hb; have n0_ := Aside0.mk (blk_below (g := gb394) (o := .cells #[.int .i64 a0_0, .int .i64 a0_1, .int .i64 a0_2, .int .i64 a0_3, .int .i64 a0_4] 84 (0, 0)) (by (with_reducible repeat (first | refine blk_drewN ?_ _ | refine blk_drew ?_ | refine blk_alloc ?_ _)); exact BK394.out) hb); have n1_ := Aside0.mk (below_step (by repeat (first | (with_reducible first | exact HB.out | apply below_alloc | apply pw_below_drewN | apply below_drew1 | refine below_set ?_ GE394.out) | exact HB.out)) hb); have n2_ := Aside0.mk (hbox); have n3_ := Aside0.mk ((by rw [hg]; exact (below_size (by repeat (first | (with_reducible first | exact HB.out | apply below_alloc | apply pw_below_drewN | apply below_drew1 | refine below_set ?_ GE394.out) | exact HB.out))) : w.heap.size ≤ gb395)); have n4_ := Aside0.mk ((by rw [hg]; exact (below_size (by repeat (first | (with_reducible first | exact HB.out | apply below_alloc | apply pw_below_drewN | apply below_drew1 | refine below_set ?_ GE394.out) | exact HB.out))) : w.heap.size ≤ gb395)); have n5_ := Aside0.mk ((by rw [hg]; exact Nat.ne_of_lt (blk_lt (g := gb394) (o := .cells #[.int .i64 a0_0, .int .i64 a0_1, .int .i64 a0_2, .int .i64 a0_3, .int .i64 a0_4] 84 (0, 0)) (by (with_reducible repeat (first | refine blk_drewN ?_ _ | refine blk_drew ?_ | refine blk_alloc ?_ _)); exact BK394.out)) : gb394 ≠ gb395)); have n6_ := Aside0.mk ((by rw [hg]; exact Nat.ne_of_gt (blk_lt (g := gb394) (o := .cells #[.int .i64 a0_0, .int .i64 a0_1, .int .i64 a0_2, .int .i64 a0_3, .int .i64 a0_4] 84 (0, 0)) (by (with_reducible repeat (first | refine blk_drewN ?_ _ | refine blk_drew ?_ | refine blk_alloc ?_ _)); exact BK394.out)) : gb395 ≠ gb394)); clear BK394; clear HB; have BK394 := n0_; have HB := n1_; have BK395 := n2_; have GW395 := n3_; have GE395 := n4_; have NB394_395 := n5_; have NB395_394 := n6_; clear n0_ n1_ n2_ n3_ n4_ n5_ n6_; clear hb hbox hg; have hnb6 := NB394_395.out; have hnc6 := NB395_394.out; have hcz7_0 : w5.cell? ⟨gb394, 0, none⟩ = some (.int .i64 a0_0) := (blk_cell BK394.out 0).trans rfl; have hcz7_1 : w5.cell? ⟨gb394, 1, none⟩ = some (.int .i64 a0_1) := (blk_cell BK394.out 1).trans rfl; have hcz7_2 : w5.cell? ⟨gb394, 2, none⟩ = some (.int .i64 a0_2) := (blk_cell BK394.out 2).trans rfl; have hcz7_3 : w5.cell? ⟨gb394, 3, none⟩ = some (.int .i64 a0_3) := (blk_cell BK394.out 3).trans rfl; have hcz7_4 : w5.cell? ⟨gb394, 4, none⟩ = some (.int .i64 a0_4) := (blk_cell BK394.out 4).trans rfl; have hfz7_0 := blk_frozen BK394.out 0; have hfz7_1 := blk_frozen BK394.out 1; have hfz7_2 := blk_frozen BK394.out 2; have hfz7_3 := blk_frozen BK394.out 3; have hfz7_4 := blk_frozen BK394.out 4; have hcz8_0 : w5.cell? ⟨gb395, 0, none⟩ = some (.int .i64 a1_0) := (blk_cell BK395.out 0).trans rfl; have hcz8_1 : w5.cell? ⟨gb395, 1, none⟩ = some (.int .i64 a1_1) := (blk_cell BK395.out 1).trans rfl; have hcz8_2 : w5.cell? ⟨gb395, 2, none⟩ = some (.int .i64 a1_2) := (blk_cell BK395.out 2).trans rfl; have hcz8_3 : w5.cell? ⟨gb395, 3, none⟩ = some (.int .i64 a1_3) := (blk_cell BK395.out 3).trans rfl; have hcz8_4 : w5.cell? ⟨gb395, 4, none⟩ = some (.int .i64 a1_4) := (blk_cell BK395.out 4).trans rfl; have hfz8_0 := blk_frozen BK395.out 0; have hfz8_1 := blk_frozen BK395.out 1; have hfz8_2 := blk_frozen BK395.out 2; have hfz8_3 := blk_frozen BK395.out 3; have hfz8_4 := blk_frozen BK395.out 4) | ((with_reducible refine gate_dst (N := 30) rfl ?_); refine Kd.R_lit (Kd.int .i64) _ 3 ?hg (N := 30) ?hd (xs := ([wrap64 (a0_0 - a1_0), wrap64 (a0_1 - a1_1), wrap64 (a0_2 - a1_2), wrap64 (a0_3 - a1_3), wrap64 (a0_4 - a1_4)] : List Int)) (inner := [.int .i64 (wrap64 (a0_0 - a1_0)), .int .i64 (wrap64 (a0_1 - a1_1)), .int .i64 (wrap64 (a0_2 - a1_2)), .int .i64 (wrap64 (a0_3 - a1_3)), .int .i64 (wrap64 (a0_4 - a1_4))]) (ok := fun _ => True) (okp := fun _ => True) ?hr ?hp (fun _ hk => hk) trivial (Below.refl _ _) (Nat.le_refl _) (by simp) ?_; (case hd => rfl); (case hg => rfl); (case hr => first | (go_simp; done) | (go_simp; rfl)); (case hp => exact (Reps.one (show Kd.M (Kd.int .i64) _ _ _ (wrap64 (a0_0 - a1_0)) [.int .i64 (wrap64 (a0_0 - a1_0))] from rfl) (Reps.one (show Kd.M (Kd.int .i64) _ _ _ (wrap64 (a0_1 - a1_1)) [.int .i64 (wrap64 (a0_1 - a1_1))] from rfl) (Reps.one (show Kd.M (Kd.int .i64) _ _ _ (wrap64 (a0_2 - a1_2)) [.int .i64 (wrap64 (a0_2 - a1_2))] from rfl) (Reps.one (show Kd.M (Kd.int .i64) _ _ _ (wrap64 (a0_3 - a1_3)) [.int .i64 (wrap64 (a0_3 - a1_3))] from rfl) (Reps.one (show Kd.M (Kd.int .i64) _ _ _ (wrap64 (a0_4 - a1_4)) [.int .i64 (wrap64 (a0_4 - a1_4))] from rfl) (Reps.none _ _))))))); intro v397 w9 ho10 hb hg_ hnew_; clear hg_ hnew_; (first | rw [← Ny396.out] at ho10 | (simp only [Int.reduceToNat] at ho10; rw [← Ny396.out] at ho10)); have n0_ := Aside0.mk (Kd.R_lower ho10 (below_size (by repeat (first | (with_reducible first | exact HB.out | apply below_alloc | apply pw_below_drewN | apply below_drew1 | refine below_set ?_ GE394.out | refine below_set ?_ GE395.out) | exact HB.out)))); have n1_ := Aside0.mk (blk_below (g := gb394) (o := .cells #[.int .i64 a0_0, .int .i64 a0_1, .int .i64 a0_2, .int .i64 a0_3, .int .i64 a0_4] 84 (0, 0)) (by (with_reducible repeat (first | refine blk_drewN ?_ _ | refine blk_drew ?_ | refine blk_alloc ?_ _)); exact BK394.out) hb); have n2_ := Aside0.mk (blk_below (g := gb395) (o := .cells #[.int .i64 a1_0, .int .i64 a1_1, .int .i64 a1_2, .int .i64 a1_3, .int .i64 a1_4] 84 (0, 0)) (by (with_reducible repeat (first | refine blk_drewN ?_ _ | refine blk_drew ?_ | refine blk_alloc ?_ _)); exact BK395.out) hb); have n3_ := Aside0.mk (below_step (by repeat (first | (with_reducible first | exact HB.out | apply below_alloc | apply pw_below_drewN | apply below_drew1 | refine below_set ?_ GE394.out | refine below_set ?_ GE395.out) | exact HB.out)) hb); clear BK394; clear BK395; clear HB; have HO398 := n0_; have BK394 := n1_; have BK395 := n2_; have HB := n3_; clear n0_ n1_ n2_ n3_; clear hb ho10; obtain ⟨Ao11, co11, eo11⟩ := Kd.R_slice HO398.out; subst eo11) | ((with_reducible refine gate_callee (f := 85) rfl ?_); refine goesL_ (some 31) rfl rfl Try.func85 (by kernel_rfl) rfl #[.slice Ao11 y396.length co11] rfl (by (try simp only [List.map_toArray, List.map_cons, List.map_nil]); first | done | rfl | (simp only [List.length_drop, List.length_take]; rfl)) ?_; (with_reducible refine (cmp_Or_int.calls k _ _ y396 t399 _ ?side1 ?side2 A3.out).mono ?_); (case side1 => repeat (first | exact (Kd.R_reads' HO398.out).2.2 | (with_reducible refine Kd.C_alloc ?_ _) | (with_reducible refine Kd.C_drewN ?_ _) | (with_reducible refine Kd.C_drew ?_))); (case side2 => exact (Kd.R_reads' HO398.out).2.1); rintro e w' ⟨rfl, ⟨nd, rfl⟩⟩; refine ⟨_, rfl, ?_⟩))
 go_ret
 exact ⟨by first | rfl | (simp [errW_none, errW_some] <;> rfl) | (simp [*, errW_none, errW_some] <;> rfl), by repeat (first | (with_reducible first | exact HB.out | apply below_alloc | apply pw_below_drewN | apply below_drew1 | refine below_set ?_ GE394.out | refine below_set ?_ GE395.out) | exact HB.out)⟩

end Go.Proofs.Ytenhigpeafaidaa.Q
-- Qx86
-- Printed by a program of this session's over the kit's printer, with functions given from outside. Lean checks it.
namespace Go.Proofs.Ytenhigpeafaidaa.Q
open Go.RowKit Go.Proofs.YtenhigpeafaidaaW.PrintWords Go.Proofs.YtenhigpeafaidaaW.PrintLast Go.Proofs.YtenhigpeafaidaaW.PrintMore
attribute [local go_sem] max2_int min2_int max_two min_two max_three min_three max_four min_four   -- for this text's walks alone
set_option linter.unusedVariables false
set_option linter.unusedSimpArgs false

/-! ### problem_loads: function 71 -/
def problem_loads.f (k : Nat) (a0_0 : Int) (a0_1 : Int) (a0_2 : Int) (a0_3 : Int) (a0_4 : Int) (a1_0 : Int) (a1_1 : Int) (a1_2 : Int) (a1_3 : Int) (a1_4 : Int) : Option (Int) := (cmp_Or_int.f k (([wrap64 (a0_0 - a1_0), wrap64 (a0_1 - a1_1), wrap64 (a0_2 - a1_2), wrap64 (a0_3 - a1_3), wrap64 (a0_4 - a1_4)] : List Int))).bind fun t405 => (some t405)
theorem problem_loads.mono : ∀ a0 a1 a2 a3 a4 a5 a6 a7 a8 a9 k, LeO (problem_loads.f k a0 a1 a2 a3 a4 a5 a6 a7 a8 a9) (problem_loads.f (k + 1) a0 a1 a2 a3 a4 a5 a6 a7 a8 a9) := by
 intro a0 a1 a2 a3 a4 a5 a6 a7 a8 a9 k
 unfold problem_loads.f
 repeat' first
   | (with_reducible exact cmp_Or_int.mono _ _)
   | (with_reducible exact LeO.refl _)
   | (with_reducible exact LeO.none _)
   | (with_reducible refine LeO.ite ?_ ?_)
   | (with_reducible refine LeO.bind ?_ (fun _ => ?_))
   | exact cmp_Or_int.mono _ _
   | exact LeO.none _
   | refine LeO.ite ?_ ?_
   | refine LeO.bind ?_ (fun _ => ?_)
set_option maxHeartbeats 8000000 in
set_option maxRecDepth 100000 in
theorem problem_loads.calls (k : Nat) (a0_0 : Int) (a0_1 : Int) (a0_2 : Int) (a0_3 : Int) (a0_4 : Int) (a1_0 : Int) (a1_1 : Int) (a1_2 : Int) (a1_3 : Int) (a1_4 : Int) (r : Int) (w : World) (h : problem_loads.f k a0_0 a0_1 a0_2 a0_3 a0_4 a1_0 a1_1 a1_2 a1_3 a1_4 = some r) :
  Calls Try.prog 71 #[.agg #[.int .i64 a0_0, .int .i64 a0_1, .int .i64 a0_2, .int .i64 a0_3, .int .i64 a0_4], .agg #[.int .i64 a1_0, .int .i64 a1_1, .int .i64 a1_2, .int .i64 a1_3, .int .i64 a1_4]] w fun e w' => e = .returned (.int .i64 r) ∧ Below w.heap.size w w' := by
 have hu97 := Try.underlying97
 have HB := Aside0.mk (Below.refl w.heap.size w)
 have H : ((cmp_Or_int.f k (([wrap64 (a0_0 - a1_0), wrap64 (a0_1 - a1_1), wrap64 (a0_2 - a1_2), wrap64 (a0_3 - a1_3), wrap64 (a0_4 - a1_4)] : List Int))).bind fun t405 => (some t405)) = some r := h
 clear h
 obtain ⟨y402, hy402⟩ : ∃ y_ : List Int, y_ = (([wrap64 (a0_0 - a1_0), wrap64 (a0_1 - a1_1), wrap64 (a0_2 - a1_2), wrap64 (a0_3 - a1_3), wrap64 (a0_4 - a1_4)] : List Int)) := ⟨_, rfl⟩
 replace H : ((cmp_Or_int.f k y402).bind fun t405 => (some t405)) = some r := by first | (rw [hy402]; with_reducible exact H) | (have H2_ := (Option.bind_some _ _).symm.trans H; rw [hy402]; with_reducible exact H2_) | (have H2_ := (Option.bind_some _ _).symm.trans H; with_reducible exact H2_) | with_reducible exact H | (rw [hy402]; exact H) | exact H
 have Ny402 := Aside0.mk hy402
 clear hy402
 replace H := Option.bind_eq_some_iff.mp H
 obtain ⟨t405, A30, H⟩ := H
 replace H : (some t405) = some r := H
 have A3 := Aside0.mk A30
 clear A30
 obtain rfl := Option.some.inj H
 go_enter Try.func71, Try.ntmps71
 go_wp2_with (first | ((with_reducible refine gate_dst (N := 2) rfl ?_); refine box_event ?hg (N := 2) ?hd (cs := #[.int .i64 a0_0, .int .i64 a0_1, .int .i64 a0_2, .int .i64 a0_3, .int .i64 a0_4]) (t := 97) ?hr ?_; (case hd => rfl); (case hg => rfl); (case hr => first | (go_simp; done) | (go_simp; rfl)); intro gb400 hg w4 hbox hb; have n0_ := Aside0.mk (below_step (by repeat (first | (with_reducible first | exact HB.out | apply below_alloc | apply pw_below_drewN | apply below_drew1) | exact HB.out)) hb); have n1_ := Aside0.mk (hbox); have n2_ := Aside0.mk ((by rw [hg]; exact (below_size (by repeat (first | (with_reducible first | exact HB.out | apply below_alloc | apply pw_below_drewN | apply below_drew1) | exact HB.out))) : w.heap.size ≤ gb400)); have n3_ := Aside0.mk ((by rw [hg]; exact (below_size (by repeat (first | (with_reducible first | exact HB.out | apply below_alloc | apply pw_below_drewN | apply below_drew1) | exact HB.out))) : w.heap.size ≤ gb400)); clear HB; have HB := n0_; have BK400 := n1_; have GW400 := n2_; have GE400 := n3_; clear n0_ n1_ n2_ n3_; clear hb hbox hg) | ((with_reducible refine gate_dst (N := 3) rfl ?_); refine box_event ?hg (N := 3) ?hd (cs := #[.int .i64 a1_0, .int .i64 a1_1, .int .i64 a1_2, .int .i64 a1_3, .int .i64 a1_4]) (t := 97) ?hr ?_; (case hd => rfl); (case hg => rfl); (case hr => first | (go_simp; done) | (go_simp; rfl)); intro gb401 hg w5 hbox hb; have n0_ := Aside0.mk (blk_below (g := gb400) (o := .cells #[.int .i64 a0_0, .int .i64 a0_1, .int .i64 a0_2, .int .i64 a0_3, .int .i64 a0_4] 97 (0, 0)) (by (with_reducible repeat (first | refine blk_drewN ?_ _ | refine blk_drew ?_ | refine blk_alloc ?_ _)); exact BK400.out) hb); have n1_ := Aside0.mk (below_step (by repeat (first | (with_reducible first | exact HB.out | apply below_alloc | apply pw_below_drewN | apply below_drew1 | refine below_set ?_ GE400.out) | exact HB.out)) hb); have n2_ := Aside0.mk (hbox); have n3_ := Aside0.mk ((by rw [hg]; exact (below_size (by repeat (first | (with_reducible first | exact HB.out | apply below_alloc | apply pw_below_drewN | apply below_drew1 | refine below_set ?_ GE400.out) | exact HB.out))) : w.heap.size ≤ gb401)); have n4_ := Aside0.mk ((by rw [hg]; exact (below_size (by repeat (first | (with_reducible first | exact HB.out | apply below_alloc | apply pw_below_drewN | apply below_drew1 | refine below_set ?_ GE400.out) | exact HB.out))) : w.heap.size ≤ gb401)); have n5_ := Aside0.mk ((by rw [hg]; exact Nat.ne_of_lt (blk_lt (g := gb400) (o := .cells #[.int .i64 a0_0, .int .i64 a0_1, .int .i64 a0_2, .int .i64 a0_3, .int .i64 a0_4] 97 (0, 0)) (by (with_reducible repeat (first | refine blk_drewN ?_ _ | refine blk_drew ?_ | refine blk_alloc ?_ _)); exact BK400.out)) : gb400 ≠ gb401)); have n6_ := Aside0.mk ((by rw [hg]; exact Nat.ne_of_gt (blk_lt (g := gb400) (o := .cells #[.int .i64 a0_0, .int .i64 a0_1, .int .i64 a0_2, .int .i64 a0_3, .int .i64 a0_4] 97 (0, 0)) (by (with_reducible repeat (first | refine blk_drewN ?_ _ | refine blk_drew ?_ | refine blk_alloc ?_ _)); exact BK400.out)) : gb401 ≠ gb400)); clear BK400; clear HB; have BK400 := n0_; have HB := n1_; have BK401 := n2_; have GW401 := n3_; have GE401 := n4_; have NB400_401 := n5_; have NB401_400 := n6_; clear n0_ n1_ n2_ n3_ n4_ n5_ n6_; clear hb hbox hg; have hnb6 := NB400_401.out; have hnc6 := NB401_400.out; have hcz7_0 : w5.cell? ⟨gb400, 0, none⟩ = some (.int .i64 a0_0) := (blk_cell BK400.out 0).trans rfl; have hcz7_1 : w5.cell? ⟨gb400, 1, none⟩ = some (.int .i64 a0_1) := (blk_cell BK400.out 1).trans rfl; have hcz7_2 : w5.cell? ⟨gb400, 2, none⟩ = some (.int .i64 a0_2) := (blk_cell BK400.out 2).trans rfl; have hcz7_3 : w5.cell? ⟨gb400, 3, none⟩ = some (.int .i64 a0_3) := (blk_cell BK400.out 3).trans rfl; have hcz7_4 : w5.cell? ⟨gb400, 4, none⟩ = some (.int .i64 a0_4) := (blk_cell BK400.out 4).trans rfl; have hfz7_0 := blk_frozen BK400.out 0; have hfz7_1 := blk_frozen BK400.out 1; have hfz7_2 := blk_frozen BK400.out 2; have hfz7_3 := blk_frozen BK400.out 3; have hfz7_4 := blk_frozen BK400.out 4; have hcz8_0 : w5.cell? ⟨gb401, 0, none⟩ = some (.int .i64 a1_0) := (blk_cell BK401.out 0).trans rfl; have hcz8_1 : w5.cell? ⟨gb401, 1, none⟩ = some (.int .i64 a1_1) := (blk_cell BK401.out 1).trans rfl; have hcz8_2 : w5.cell? ⟨gb401, 2, none⟩ = some (.int .i64 a1_2) := (blk_cell BK401.out 2).trans rfl; have hcz8_3 : w5.cell? ⟨gb401, 3, none⟩ = some (.int .i64 a1_3) := (blk_cell BK401.out 3).trans rfl; have hcz8_4 : w5.cell? ⟨gb401, 4, none⟩ = some (.int .i64 a1_4) := (blk_cell BK401.out 4).trans rfl; have hfz8_0 := blk_frozen BK401.out 0; have hfz8_1 := blk_frozen BK401.out 1; have hfz8_2 := blk_frozen BK401.out 2; have hfz8_3 := blk_frozen BK401.out 3; have hfz8_4 := blk_frozen BK401.out 4) | ((with_reducible refine gate_dst (N := 30) rfl ?_); refine Kd.R_lit (Kd.int .i64) _ 3 ?hg (N := 30) ?hd (xs := ([wrap64 (a0_0 - a1_0), wrap64 (a0_1 - a1_1), wrap64 (a0_2 - a1_2), wrap64 (a0_3 - a1_3), wrap64 (a0_4 - a1_4)] : List Int)) (inner := [.int .i64 (wrap64 (a0_0 - a1_0)), .int .i64 (wrap64 (a0_1 - a1_1)), .int .i64 (wrap64 (a0_2 - a1_2)), .int .i64 (wrap64 (a0_3 - a1_3)), .int .i64 (wrap64 (a0_4 - a1_4))]) (ok := fun _ => True) (okp := fun _ => True) ?hr ?hp (fun _ hk => hk) trivial (Below.refl _ _) (Nat.le_refl _) (by simp) ?_; (case hd => rfl); (case hg => rfl); (case hr => first | (go_simp; done) | (go_simp; rfl)); (case hp => exact (Reps.one (show Kd.M (Kd.int .i64) _ _ _ (wrap64 (a0_0 - a1_0)) [.int .i64 (wrap64 (a0_0 - a1_0))] from rfl) (Reps.one (show Kd.M (Kd.int .i64) _ _ _ (wrap64 (a0_1 - a1_1)) [.int .i64 (wrap64 (a0_1 - a1_1))] from rfl) (Reps.one (show Kd.M (Kd.int .i64) _ _ _ (wrap64 (a0_2 - a1_2)) [.int .i64 (wrap64 (a0_2 - a1_2))] from rfl) (Reps.one (show Kd.M (Kd.int .i64) _ _ _ (wrap64 (a0_3 - a1_3)) [.int .i64 (wrap64 (a0_3 - a1_3))] from rfl) (Reps.one (show Kd.M (Kd.int .i64) _ _ _ (wrap64 (a0_4 - a1_4)) [.int .i64 (wrap64 (a0_4 - a1_4))] from rfl) (Reps.none _ _))))))); intro v403 w9 ho10 hb hg_ hnew_; clear hg_ hnew_; (first | rw [← Ny402.out] at ho10 | (simp only [Int.reduceToNat] at ho10; rw [← Ny402.out] at ho10)); have n0_ := Aside0.mk (Kd.R_lower ho10 (below_size (by repeat (first | (with_reducible first | exact HB.out | apply below_alloc | apply pw_below_drewN | apply below_drew1 | refine below_set ?_ GE400.out | refine below_set ?_ GE401.out) | exact HB.out)))); have n1_ := Aside0.mk (blk_below (g := gb400) (o := .cells #[.int .i64 a0_0, .int .i64 a0_1, .int .i64 a0_2, .int .i64 a0_3, .int .i64 a0_4] 97 (0, 0)) (by (with_reducible repeat (first | refine blk_drewN ?_ _ | refine blk_drew ?_ | refine blk_alloc ?_ _)); exact BK400.out) hb); have n2_ := Aside0.mk (blk_below (g := gb401) (o := .cells #[.int .i64 a1_0, .int .i64 a1_1, .int .i64 a1_2, .int .i64 a1_3, .int .i64 a1_4] 97 (0, 0)) (by (with_reducible repeat (first | refine blk_drewN ?_ _ | refine blk_drew ?_ | refine blk_alloc ?_ _)); exact BK401.out) hb); have n3_ := Aside0.mk (below_step (by repeat (first | (with_reducible first | exact HB.out | apply below_alloc | apply pw_below_drewN | apply below_drew1 | refine below_set ?_ GE400.out | refine below_set ?_ GE401.out) | exact HB.out)) hb); clear BK400; clear BK401; clear HB; have HO404 := n0_; have BK400 := n1_; have BK401 := n2_; have HB := n3_; clear n0_ n1_ n2_ n3_; clear hb ho10; obtain ⟨Ao11, co11, eo11⟩ := Kd.R_slice HO404.out; subst eo11) | ((with_reducible refine gate_callee (f := 85) rfl ?_); refine goesL_ (some 31) rfl rfl Try.func85 (by kernel_rfl) rfl #[.slice Ao11 y402.length co11] rfl (by (try simp only [List.map_toArray, List.map_cons, List.map_nil]); first | done | rfl | (simp only [List.length_drop, List.length_take]; rfl)) ?_; (with_reducible refine (cmp_Or_int.calls k _ _ y402 t405 _ ?side1 ?side2 A3.out).mono ?_); (case side1 => repeat (first | exact (Kd.R_reads' HO404.out).2.2 | (with_reducible refine Kd.C_alloc ?_ _) | (with_reducible refine Kd.C_drewN ?_ _) | (with_reducible refine Kd.C_drew ?_))); (case side2 => exact (Kd.R_reads' HO404.out).2.1); rintro e w' ⟨rfl, ⟨nd, rfl⟩⟩; refine ⟨_, rfl, ?_⟩))
 go_ret
 exact ⟨by first | rfl | (simp [errW_none, errW_some] <;> rfl) | (simp [*, errW_none, errW_some] <;> rfl), by repeat (first | (with_reducible first | exact HB.out | apply below_alloc | apply pw_below_drewN | apply below_drew1 | refine below_set ?_ GE400.out | refine below_set ?_ GE401.out) | exact HB.out)⟩

end Go.Proofs.Ytenhigpeafaidaa.Q
-- Qx87
-- Printed by a program of this session's over the kit's printer, with functions given from outside. Lean checks it.
namespace Go.Proofs.Ytenhigpeafaidaa.Q
open Go.RowKit Go.Proofs.YtenhigpeafaidaaW.PrintWords Go.Proofs.YtenhigpeafaidaaW.PrintLast Go.Proofs.YtenhigpeafaidaaW.PrintMore
attribute [local go_sem] max2_int min2_int max_two min_two max_three min_three max_four min_four   -- for this text's walks alone
set_option linter.unusedVariables false
set_option linter.unusedSimpArgs false

/-! ### problem_caps: function 74 -/
def problem_caps.f (k : Nat) (a0_0 : Int) (a0_1 : Int) (a0_2 : Int) (a0_3 : Int) (a1_0 : Int) (a1_1 : Int) (a1_2 : Int) (a1_3 : Int) : Option (Int) := (cmp_Or_int.f k (([wrap64 (a0_0 - a1_0), wrap64 (a0_1 - a1_1), wrap64 (a0_2 - a1_2), wrap64 (a0_3 - a1_3)] : List Int))).bind fun t411 => (some t411)
theorem problem_caps.mono : ∀ a0 a1 a2 a3 a4 a5 a6 a7 k, LeO (problem_caps.f k a0 a1 a2 a3 a4 a5 a6 a7) (problem_caps.f (k + 1) a0 a1 a2 a3 a4 a5 a6 a7) := by
 intro a0 a1 a2 a3 a4 a5 a6 a7 k
 unfold problem_caps.f
 repeat' first
   | (with_reducible exact cmp_Or_int.mono _ _)
   | (with_reducible exact LeO.refl _)
   | (with_reducible exact LeO.none _)
   | (with_reducible refine LeO.ite ?_ ?_)
   | (with_reducible refine LeO.bind ?_ (fun _ => ?_))
   | exact cmp_Or_int.mono _ _
   | exact LeO.none _
   | refine LeO.ite ?_ ?_
   | refine LeO.bind ?_ (fun _ => ?_)
set_option maxHeartbeats 8000000 in
set_option maxRecDepth 100000 in
theorem problem_caps.calls (k : Nat) (a0_0 : Int) (a0_1 : Int) (a0_2 : Int) (a0_3 : Int) (a1_0 : Int) (a1_1 : Int) (a1_2 : Int) (a1_3 : Int) (r : Int) (w : World) (h : problem_caps.f k a0_0 a0_1 a0_2 a0_3 a1_0 a1_1 a1_2 a1_3 = some r) :
  Calls Try.prog 74 #[.agg #[.int .i64 a0_0, .int .i64 a0_1, .int .i64 a0_2, .int .i64 a0_3], .agg #[.int .i64 a1_0, .int .i64 a1_1, .int .i64 a1_2, .int .i64 a1_3]] w fun e w' => e = .returned (.int .i64 r) ∧ Below w.heap.size w w' := by
 have hu99 := Try.underlying99
 have HB := Aside0.mk (Below.refl w.heap.size w)
 have H : ((cmp_Or_int.f k (([wrap64 (a0_0 - a1_0), wrap64 (a0_1 - a1_1), wrap64 (a0_2 - a1_2), wrap64 (a0_3 - a1_3)] : List Int))).bind fun t411 => (some t411)) = some r := h
 clear h
 obtain ⟨y408, hy408⟩ : ∃ y_ : List Int, y_ = (([wrap64 (a0_0 - a1_0), wrap64 (a0_1 - a1_1), wrap64 (a0_2 - a1_2), wrap64 (a0_3 - a1_3)] : List Int)) := ⟨_, rfl⟩
 replace H : ((cmp_Or_int.f k y408).bind fun t411 => (some t411)) = some r := by first | (rw [hy408]; with_reducible exact H) | (have H2_ := (Option.bind_some _ _).symm.trans H; rw [hy408]; with_reducible exact H2_) | (have H2_ := (Option.bind_some _ _).symm.trans H; with_reducible exact H2_) | with_reducible exact H | (rw [hy408]; exact H) | exact H
 have Ny408 := Aside0.mk hy408
 clear hy408
 replace H := Option.bind_eq_some_iff.mp H
 obtain ⟨t411, A30, H⟩ := H
 replace H : (some t411) = some r := H
 have A3 := Aside0.mk A30
 clear A30
 obtain rfl := Option.some.inj H
 go_enter Try.func74, Try.ntmps74
 go_wp2_with (first | ((with_reducible refine gate_dst (N := 2) rfl ?_); refine box_event ?hg (N := 2) ?hd (cs := #[.int .i64 a0_0, .int .i64 a0_1, .int .i64 a0_2, .int .i64 a0_3]) (t := 99) ?hr ?_; (case hd => rfl); (case hg => rfl); (case hr => first | (go_simp; done) | (go_simp; rfl)); intro gb406 hg w4 hbox hb; have n0_ := Aside0.mk (below_step (by repeat (first | (with_reducible first | exact HB.out | apply below_alloc | apply pw_below_drewN | apply below_drew1) | exact HB.out)) hb); have n1_ := Aside0.mk (hbox); have n2_ := Aside0.mk ((by rw [hg]; exact (below_size (by repeat (first | (with_reducible first | exact HB.out | apply below_alloc | apply pw_below_drewN | apply below_drew1) | exact HB.out))) : w.heap.size ≤ gb406)); have n3_ := Aside0.mk ((by rw [hg]; exact (below_size (by repeat (first | (with_reducible first | exact HB.out | apply below_alloc | apply pw_below_drewN | apply below_drew1) | exact HB.out))) : w.heap.size ≤ gb406)); clear HB; have HB := n0_; have BK406 := n1_; have GW406 := n2_; have GE406 := n3_; clear n0_ n1_ n2_ n3_; clear hb hbox hg) | ((with_reducible refine gate_dst (N := 3) rfl ?_); refine box_event ?hg (N := 3) ?hd (cs := #[.int .i64 a1_0, .int .i64 a1_1, .int .i64 a1_2, .int .i64 a1_3]) (t := 99) ?hr ?_; (case hd => rfl); (case hg => rfl); (case hr => first | (go_simp; done) | (go_simp; rfl)); intro gb407 hg w5 hbox hb; have n0_ := Aside0.mk (blk_below (g := gb406) (o := .cells #[.int .i64 a0_0, .int .i64 a0_1, .int .i64 a0_2, .int .i64 a0_3] 99 (0, 0)) (by (with_reducible repeat (first | refine blk_drewN ?_ _ | refine blk_drew ?_ | refine blk_alloc ?_ _)); exact BK406.out) hb); have n1_ := Aside0.mk (below_step (by repeat (first | (with_reducible first | exact HB.out | apply below_alloc | apply pw_below_drewN | apply below_drew1 | refine below_set ?_ GE406.out) | exact HB.out)) hb); have n2_ := Aside0.mk (hbox); have n3_ := Aside0.mk ((by rw [hg]; exact (below_size (by repeat (first | (with_reducible first | exact HB.out | apply below_alloc | apply pw_below_drewN | apply below_drew1 | refine below_set ?_ GE406.out) | exact HB.out))) : w.heap.size ≤ gb407)); have n4_ := Aside0.mk ((by rw [hg]; exact (below_size (by repeat (first | (with_reducible first | exact HB.out | apply below_alloc | apply pw_below_drewN | apply below_drew1 | refine below_set ?_ GE406.out) | exact HB.out))) : w.heap.size ≤ gb407)); have n5_ := Aside0.mk ((by rw [hg]; exact Nat.ne_of_lt (blk_lt (g := gb406) (o := .cells #[.int .i64 a0_0, .int .i64 a0_1, .int .i64 a0_2, .int .i64 a0_3] 99 (0, 0)) (by (with_reducible repeat (first | refine blk_drewN ?_ _ | refine blk_drew ?_ | refine blk_alloc ?_ _)); exact BK406.out)) : gb406 ≠ gb407)); have n6_ := Aside0.mk ((by rw [hg]; exact Nat.ne_of_gt (blk_lt (g := gb406) (o := .cells #[.int .i64 a0_0, .int .i64 a0_1, .int .i64 a0_2, .int .i64 a0_3] 99 (0, 0)) (by (with_reducible repeat (first | refine blk_drewN ?_ _ | refine blk_drew ?_ | refine blk_alloc ?_ _)); exact BK406.out)) : gb407 ≠ gb406)); clear BK406; clear HB; have BK406 := n0_; have HB := n1_; have BK407 := n2_; have GW407 := n3_; have GE407 := n4_; have NB406_407 := n5_; have NB407_406 := n6_; clear n0_ n1_ n2_ n3_ n4_ n5_ n6_; clear hb hbox hg; have hnb6 := NB406_407.out; have hnc6 := NB407_406.out; have hcz7_0 : w5.cell? ⟨gb406, 0, none⟩ = some (.int .i64 a0_0) := (blk_cell BK406.out 0).trans rfl; have hcz7_1 : w5.cell? ⟨gb406, 1, none⟩ = some (.int .i64 a0_1) := (blk_cell BK406.out 1).trans rfl; have hcz7_2 : w5.cell? ⟨gb406, 2, none⟩ = some (.int .i64 a0_2) := (blk_cell BK406.out 2).trans rfl; have hcz7_3 : w5.cell? ⟨gb406, 3, none⟩ = some (.int .i64 a0_3) := (blk_cell BK406.out 3).trans rfl; have hfz7_0 := blk_frozen BK406.out 0; have hfz7_1 := blk_frozen BK406.out 1; have hfz7_2 := blk_frozen BK406.out 2; have hfz7_3 := blk_frozen BK406.out 3; have hcz8_0 : w5.cell? ⟨gb407, 0, none⟩ = some (.int .i64 a1_0) := (blk_cell BK407.out 0).trans rfl; have hcz8_1 : w5.cell? ⟨gb407, 1, none⟩ = some (.int .i64 a1_1) := (blk_cell BK407.out 1).trans rfl; have hcz8_2 : w5.cell? ⟨gb407, 2, none⟩ = some (.int .i64 a1_2) := (blk_cell BK407.out 2).trans rfl; have hcz8_3 : w5.cell? ⟨gb407, 3, none⟩ = some (.int .i64 a1_3) := (blk_cell BK407.out 3).trans rfl; have hfz8_0 := blk_frozen BK407.out 0; have hfz8_1 := blk_frozen BK407.out 1; have hfz8_2 := blk_frozen BK407.out 2; have hfz8_3 := blk_frozen BK407.out 3) | ((with_reducible refine gate_dst (N := 25) rfl ?_); refine Kd.R_lit (Kd.int .i64) _ 3 ?hg (N := 25) ?hd (xs := ([wrap64 (a0_0 - a1_0), wrap64 (a0_1 - a1_1), wrap64 (a0_2 - a1_2), wrap64 (a0_3 - a1_3)] : List Int)) (inner := [.int .i64 (wrap64 (a0_0 - a1_0)), .int .i64 (wrap64 (a0_1 - a1_1)), .int .i64 (wrap64 (a0_2 - a1_2)), .int .i64 (wrap64 (a0_3 - a1_3))]) (ok := fun _ => True) (okp := fun _ => True) ?hr ?hp (fun _ hk => hk) trivial (Below.refl _ _) (Nat.le_refl _) (by simp) ?_; (case hd => rfl); (case hg => rfl); (case hr => first | (go_simp; done) | (go_simp; rfl)); (case hp => exact (Reps.one (show Kd.M (Kd.int .i64) _ _ _ (wrap64 (a0_0 - a1_0)) [.int .i64 (wrap64 (a0_0 - a1_0))] from rfl) (Reps.one (show Kd.M (Kd.int .i64) _ _ _ (wrap64 (a0_1 - a1_1)) [.int .i64 (wrap64 (a0_1 - a1_1))] from rfl) (Reps.one (show Kd.M (Kd.int .i64) _ _ _ (wrap64 (a0_2 - a1_2)) [.int .i64 (wrap64 (a0_2 - a1_2))] from rfl) (Reps.one (show Kd.M (Kd.int .i64) _ _ _ (wrap64 (a0_3 - a1_3)) [.int .i64 (wrap64 (a0_3 - a1_3))] from rfl) (Reps.none _ _)))))); intro v409 w9 ho10 hb hg_ hnew_; clear hg_ hnew_; (first | rw [← Ny408.out] at ho10 | (simp only [Int.reduceToNat] at ho10; rw [← Ny408.out] at ho10)); have n0_ := Aside0.mk (Kd.R_lower ho10 (below_size (by repeat (first | (with_reducible first | exact HB.out | apply below_alloc | apply pw_below_drewN | apply below_drew1 | refine below_set ?_ GE406.out | refine below_set ?_ GE407.out) | exact HB.out)))); have n1_ := Aside0.mk (blk_below (g := gb406) (o := .cells #[.int .i64 a0_0, .int .i64 a0_1, .int .i64 a0_2, .int .i64 a0_3] 99 (0, 0)) (by (with_reducible repeat (first | refine blk_drewN ?_ _ | refine blk_drew ?_ | refine blk_alloc ?_ _)); exact BK406.out) hb); have n2_ := Aside0.mk (blk_below (g := gb407) (o := .cells #[.int .i64 a1_0, .int .i64 a1_1, .int .i64 a1_2, .int .i64 a1_3] 99 (0, 0)) (by (with_reducible repeat (first | refine blk_drewN ?_ _ | refine blk_drew ?_ | refine blk_alloc ?_ _)); exact BK407.out) hb); have n3_ := Aside0.mk (below_step (by repeat (first | (with_reducible first | exact HB.out | apply below_alloc | apply pw_below_drewN | apply below_drew1 | refine below_set ?_ GE406.out | refine below_set ?_ GE407.out) | exact HB.out)) hb); clear BK406; clear BK407; clear HB; have HO410 := n0_; have BK406 := n1_; have BK407 := n2_; have HB := n3_; clear n0_ n1_ n2_ n3_; clear hb ho10; obtain ⟨Ao11, co11, eo11⟩ := Kd.R_slice HO410.out; subst eo11) | ((with_reducible refine gate_callee (f := 85) rfl ?_); refine goesL_ (some 26) rfl rfl Try.func85 (by kernel_rfl) rfl #[.slice Ao11 y408.length co11] rfl (by (try simp only [List.map_toArray, List.map_cons, List.map_nil]); first | done | rfl | (simp only [List.length_drop, List.length_take]; rfl)) ?_; (with_reducible refine (cmp_Or_int.calls k _ _ y408 t411 _ ?side1 ?side2 A3.out).mono ?_); (case side1 => repeat (first | exact (Kd.R_reads' HO410.out).2.2 | (with_reducible refine Kd.C_alloc ?_ _) | (with_reducible refine Kd.C_drewN ?_ _) | (with_reducible refine Kd.C_drew ?_))); (case side2 => exact (Kd.R_reads' HO410.out).2.1); rintro e w' ⟨rfl, ⟨nd, rfl⟩⟩; refine ⟨_, rfl, ?_⟩))
 go_ret
 exact ⟨by first | rfl | (simp [errW_none, errW_some] <;> rfl) | (simp [*, errW_none, errW_some] <;> rfl), by repeat (first | (with_reducible first | exact HB.out | apply below_alloc | apply pw_below_drewN | apply below_drew1 | refine below_set ?_ GE406.out | refine below_set ?_ GE407.out) | exact HB.out)⟩

end Go.Proofs.Ytenhigpeafaidaa.Q
-- Pa
namespace Go.Proofs.Ytenhigpeafaidaa.Q
open Go.RowKit Go.Proofs.YtenhigpeafaidaaW.PrintWords Go.Proofs.YtenhigpeafaidaaW.PrintLast Go.Proofs.YtenhigpeafaidaaW.PrintMore Go.Proofs.Ytenhigpeafaidaa.Wire
set_option linter.unusedVariables false
set_option linter.unusedSimpArgs false

abbrev SPr := S84
abbrev SLd := S97
abbrev SCp := S99
def stnB (n : Int) : Bool := decide (0 ≤ n) && decide (n < 512)
def spanB (a b : Int) : Bool := decide (2 ≤ a) && (decide (a ≤ b) && decide (b ≤ 51))
def pairV (x : SPr) : Bool := stnB x.f0 && (stnB x.f1 && (decide (x.f0 < x.f1) && (decide (-1 ≤ x.f2) && (decide (x.f2 ≤ 1) && spanB x.f3 x.f4))))
def loadV (x : SLd) : Bool := stnB x.f0 && (stnB x.f1 && (decide (x.f0 ≠ x.f1) && (decide (1 ≤ x.f2) && (decide (x.f2 ≤ 1073741824) && spanB x.f3 x.f4))))
def capV (x : SCp) : Bool := stnB x.f0 && (decide (0 ≤ x.f1) && (decide (x.f1 ≤ 1099511627776) && spanB x.f2 x.f3))
/-- The first number that is not 0. -/
def orI : List Int → Int
 | [] => 0
 | x :: r => if x = 0 then orI r else x
def pairO (x y : SPr) : Int := orI [x.f0 - y.f0, x.f1 - y.f1, x.f2 - y.f2, x.f3 - y.f3, x.f4 - y.f4]
def loadO (x y : SLd) : Int := orI [x.f0 - y.f0, x.f1 - y.f1, x.f2 - y.f2, x.f3 - y.f3, x.f4 - y.f4]
def capO (x y : SCp) : Int := orI [x.f0 - y.f0, x.f1 - y.f1, x.f2 - y.f2, x.f3 - y.f3]
theorem station_eq (n : Int) : problem_station.f n = some (stnB n) := by
 unfold problem_station.f stnB
 by_cases h : 0 ≤ n
 ·
  rw [if_pos h, decide_eq_true h]; rfl
 ·
  rw [if_neg h, decide_eq_false h]; rfl
theorem span_eq (a b : Int) : problem_span.f a b = some (spanB a b) := by
 unfold problem_span.f spanB
 by_cases h : 2 ≤ a
 ·
  rw [if_pos h, decide_eq_true h]
  by_cases h2 : a ≤ b
  ·
   rw [if_pos h2, decide_eq_true h2]; rfl
  ·
   rw [if_neg h2, decide_eq_false h2]; rfl
 ·
  rw [if_neg h, decide_eq_false h]; rfl
theorem pairV_eq (x : SPr) : problem_ValidRules_1.f x.f0 x.f1 x.f2 x.f3 x.f4 = some (pairV x) := by
 unfold problem_ValidRules_1.f pairV
 simp only [station_eq, span_eq, Option.bind_some]
 cases stnB x.f0 <;> cases stnB x.f1 <;> simp
 by_cases h1 : x.f0 < x.f1 <;> by_cases h2 : -1 ≤ x.f2 <;> by_cases h3 : x.f2 ≤ 1 <;> simp [h1, h2, h3]
theorem loadV_eq (x : SLd) : problem_ValidRules_2.f x.f0 x.f1 x.f2 x.f3 x.f4 = some (loadV x) := by
 unfold problem_ValidRules_2.f loadV
 simp only [station_eq, span_eq, Option.bind_some]
 cases stnB x.f0 <;> cases stnB x.f1 <;> simp
 by_cases h1 : x.f0 = x.f1 <;> by_cases h2 : 1 ≤ x.f2 <;> by_cases h3 : x.f2 ≤ 1073741824 <;> simp [h1, h2, h3]
theorem capV_eq (x : SCp) : problem_ValidRules_3.f x.f0 x.f1 x.f2 x.f3 = some (capV x) := by
 unfold problem_ValidRules_3.f capV
 simp only [station_eq, span_eq, Option.bind_some]
 cases stnB x.f0 <;> simp
 by_cases h2 : 0 ≤ x.f1 <;> by_cases h3 : x.f1 ≤ 1099511627776 <;> simp [h2, h3]
theorem wrap_s (i : Nat) (h : i < 4611686018427387904) : wrap64 ((i : Int) + 1) = ((i + 1 : Nat) : Int) := by unfold wrap64; omega
theorem rd_nat (l : List Int) (i : Nat) : rd l (i : Int) = l.getD i 0 := by simp [rd]
theorem or_ev (l : List Int) (hl : l.length < 1000000) : Ev (fun k => cmp_Or_int.f k l) (orI l) := by
 have aux : ∀ d (i : Nat), i + d = l.length → Ev (fun k => cmp_Or_int.l0 k 0 l (l.length : Int) (i : Int)) (orI (l.drop i)) := by
  intro d
  induction d with
  | zero =>
   intro i hi
   refine Ev.step (fun _ => cmp_Or_int.l0.eq_2 ..) ?_
   simp only [if_neg (show ¬ (i : Int) < (l.length : Int) by omega)]
   rw [List.drop_eq_nil_of_le (by omega)]
   exact Ev.now _
  | succ d ih =>
   intro i hi
   refine Ev.step (fun _ => cmp_Or_int.l0.eq_2 ..) ?_
   simp only [if_pos (show (i : Int) < (l.length : Int) by omega), if_pos (show (0 : Int) ≤ (i : Int) by omega)]
   have e : l[i]'(by omega) = l.getD i 0 := by simp [List.getD, show i < l.length by omega]
   rw [rd_nat, wrap_s i (by omega), List.drop_eq_getElem_cons (by omega), e]
   unfold orI
   by_cases q : l.getD i 0 = 0
   ·
    simp only [if_pos q]; exact ih (i + 1) (by omega)
   ·
    simp only [if_neg q]; exact Ev.now _
 exact aux l.length 0 (by omega)
theorem stnB_range {n : Int} (h : stnB n = true) : 0 ≤ n ∧ n < 512 := by unfold stnB at h; simpa using h
theorem spanB_range {a b : Int} (h : spanB a b = true) : 2 ≤ a ∧ a ≤ b ∧ b ≤ 51 := by unfold spanB at h; simpa using h
theorem pairV_range {x : SPr} (h : pairV x = true) : (0 ≤ x.f0 ∧ x.f0 < 512) ∧ (0 ≤ x.f1 ∧ x.f1 < 512) ∧ (x.f0 < x.f1) ∧ (-1 ≤ x.f2 ∧ x.f2 ≤ 1) ∧ (2 ≤ x.f3 ∧ x.f3 ≤ x.f4 ∧ x.f4 ≤ 51) := by
 unfold pairV at h
 simp only [Bool.and_eq_true, decide_eq_true_eq] at h
 exact ⟨stnB_range h.1, stnB_range h.2.1, h.2.2.1, ⟨h.2.2.2.1, h.2.2.2.2.1⟩, spanB_range h.2.2.2.2.2⟩
theorem loadV_range {x : SLd} (h : loadV x = true) : (0 ≤ x.f0 ∧ x.f0 < 512) ∧ (0 ≤ x.f1 ∧ x.f1 < 512) ∧ (x.f0 ≠ x.f1) ∧ (1 ≤ x.f2 ∧ x.f2 ≤ 1073741824) ∧ (2 ≤ x.f3 ∧ x.f3 ≤ x.f4 ∧ x.f4 ≤ 51) := by
 unfold loadV at h
 simp only [Bool.and_eq_true, decide_eq_true_eq] at h
 exact ⟨stnB_range h.1, stnB_range h.2.1, h.2.2.1, ⟨h.2.2.2.1, h.2.2.2.2.1⟩, spanB_range h.2.2.2.2.2⟩
theorem capV_range {x : SCp} (h : capV x = true) : (0 ≤ x.f0 ∧ x.f0 < 512) ∧ (0 ≤ x.f1 ∧ x.f1 ≤ 1099511627776) ∧ (2 ≤ x.f2 ∧ x.f2 ≤ x.f3 ∧ x.f3 ≤ 51) := by
 unfold capV at h
 simp only [Bool.and_eq_true, decide_eq_true_eq] at h
 exact ⟨stnB_range h.1, ⟨h.2.1, h.2.2.1⟩, spanB_range h.2.2.2⟩
theorem w64 {n : Int} (h0 : -9223372036854775808 ≤ n) (h1 : n < 9223372036854775808) : wrap64 n = n := by unfold wrap64; omega
theorem pairs_ev {x y : SPr} (hx : pairV x = true) (hy : pairV y = true) : Ev (fun k => problem_pairs.f k x.f0 x.f1 x.f2 x.f3 x.f4 y.f0 y.f1 y.f2 y.f3 y.f4) (pairO x y) := by
 have a := pairV_range hx; have b := pairV_range hy
 unfold problem_pairs.f
 rw [w64 (n := x.f0 - y.f0) (by omega) (by omega), w64 (n := x.f1 - y.f1) (by omega) (by omega), w64 (n := x.f2 - y.f2) (by omega) (by omega), w64 (n := x.f3 - y.f3) (by omega) (by omega), w64 (n := x.f4 - y.f4) (by omega) (by omega)]
 exact Ev.bind (or_ev _ (by simp)) (Ev.now _)
theorem loads_ev {x y : SLd} (hx : loadV x = true) (hy : loadV y = true) : Ev (fun k => problem_loads.f k x.f0 x.f1 x.f2 x.f3 x.f4 y.f0 y.f1 y.f2 y.f3 y.f4) (loadO x y) := by
 have a := loadV_range hx; have b := loadV_range hy
 unfold problem_loads.f
 rw [w64 (n := x.f0 - y.f0) (by omega) (by omega), w64 (n := x.f1 - y.f1) (by omega) (by omega), w64 (n := x.f2 - y.f2) (by omega) (by omega), w64 (n := x.f3 - y.f3) (by omega) (by omega), w64 (n := x.f4 - y.f4) (by omega) (by omega)]
 exact Ev.bind (or_ev _ (by simp)) (Ev.now _)
theorem caps_ev {x y : SCp} (hx : capV x = true) (hy : capV y = true) : Ev (fun k => problem_caps.f k x.f0 x.f1 x.f2 x.f3 y.f0 y.f1 y.f2 y.f3) (capO x y) := by
 have a := capV_range hx; have b := capV_range hy
 unfold problem_caps.f
 rw [w64 (n := x.f0 - y.f0) (by omega) (by omega), w64 (n := x.f1 - y.f1) (by omega) (by omega), w64 (n := x.f2 - y.f2) (by omega) (by omega), w64 (n := x.f3 - y.f3) (by omega) (by omega)]
 exact Ev.bind (or_ev _ (by simp)) (Ev.now _)
theorem pb {w0 w w' : World} (hB : Below w0.heap.size w0 w) (h : Below w.heap.size w w') : Below w0.heap.size w0 w' ∧ Kept w w' (fun _ => False) := ⟨below_then hB hB.size h, Kept.of_below h _⟩
def risPairs (l : List SPr) : Bool := risB pairV pairO none l
def risLoads (l : List SLd) : Bool := risB loadV loadO none l
def risCaps (l : List SCp) : Bool := risB capV capO none l
theorem risPairs_calls (w0 w : World) (A : Option Addr) (c : Nat) (l : List SPr) (hB : Below w0.heap.size w0 w) (hC : Kd.C k84 w A l.length l) (hl : l.length ≤ 100000000) :
  Calls Try.prog 64 #[.slice A l.length c, .func (.func 65) #[] #[], .func (.func 68) #[] #[]] w (fun r w' => r = .returned (.bool (risPairs l)) ∧ Below w0.heap.size w0 w' ∧ Kept w w' (fun _ => False)) :=
 risingPair_calls w0 w _ _ pairV pairO A c l (fun W x hb => (problem_ValidRules_1.calls x.f0 x.f1 x.f2 x.f3 x.f4 _ W (pairV_eq x)).mono (fun r w' h => ⟨h.1, pb hb h.2⟩))
  (fun W x y hx hy hb => by obtain ⟨k, hk⟩ := (pairs_ev hx hy).rounds; exact (problem_pairs.calls k x.f0 x.f1 x.f2 x.f3 x.f4 y.f0 y.f1 y.f2 y.f3 y.f4 _ W hk).mono (fun r w' h => ⟨h.1, pb hb h.2⟩))
  (fun w a => enters_ Try.func65 (by kernel_rfl) (by kernel_rfl) _ w) (fun w a b => enters_ Try.func68 (by kernel_rfl) (by kernel_rfl) _ w) hB hC hl
theorem risLoads_calls (w0 w : World) (A : Option Addr) (c : Nat) (l : List SLd) (hB : Below w0.heap.size w0 w) (hC : Kd.C k97 w A l.length l) (hl : l.length ≤ 100000000) :
  Calls Try.prog 69 #[.slice A l.length c, .func (.func 70) #[] #[], .func (.func 71) #[] #[]] w (fun r w' => r = .returned (.bool (risLoads l)) ∧ Below w0.heap.size w0 w' ∧ Kept w w' (fun _ => False)) :=
 risingLoad_calls w0 w _ _ loadV loadO A c l (fun W x hb => (problem_ValidRules_2.calls x.f0 x.f1 x.f2 x.f3 x.f4 _ W (loadV_eq x)).mono (fun r w' h => ⟨h.1, pb hb h.2⟩))
  (fun W x y hx hy hb => by obtain ⟨k, hk⟩ := (loads_ev hx hy).rounds; exact (problem_loads.calls k x.f0 x.f1 x.f2 x.f3 x.f4 y.f0 y.f1 y.f2 y.f3 y.f4 _ W hk).mono (fun r w' h => ⟨h.1, pb hb h.2⟩))
  (fun w a => enters_ Try.func70 (by kernel_rfl) (by kernel_rfl) _ w) (fun w a b => enters_ Try.func71 (by kernel_rfl) (by kernel_rfl) _ w) hB hC hl
theorem risCaps_calls (w0 w : World) (A : Option Addr) (c : Nat) (l : List SCp) (hB : Below w0.heap.size w0 w) (hC : Kd.C k99 w A l.length l) (hl : l.length ≤ 100000000) :
  Calls Try.prog 72 #[.slice A l.length c, .func (.func 73) #[] #[], .func (.func 74) #[] #[]] w (fun r w' => r = .returned (.bool (risCaps l)) ∧ Below w0.heap.size w0 w' ∧ Kept w w' (fun _ => False)) :=
 risingCap_calls w0 w _ _ capV capO A c l (fun W x hb => (problem_ValidRules_3.calls x.f0 x.f1 x.f2 x.f3 _ W (capV_eq x)).mono (fun r w' h => ⟨h.1, pb hb h.2⟩))
  (fun W x y hx hy hb => by obtain ⟨k, hk⟩ := (caps_ev hx hy).rounds; exact (problem_caps.calls k x.f0 x.f1 x.f2 x.f3 y.f0 y.f1 y.f2 y.f3 _ W hk).mono (fun r w' h => ⟨h.1, pb hb h.2⟩))
  (fun w a => enters_ Try.func73 (by kernel_rfl) (by kernel_rfl) _ w) (fun w a b => enters_ Try.func74 (by kernel_rfl) (by kernel_rfl) _ w) hB hC hl
end Go.Proofs.Ytenhigpeafaidaa.Q
-- Pb
namespace Go.Proofs.Ytenhigpeafaidaa.Q
open Go.RowKit Go.Maps Go.Proofs.YtenhigpeafaidaaW.PrintWords Go.Proofs.YtenhigpeafaidaaW.PrintLast Go.Proofs.YtenhigpeafaidaaW.PrintMore Go.Proofs.Ytenhigpeafaidaa.Wire
set_option linter.unusedVariables false
set_option linter.unusedSimpArgs false

def rulesB (ps : List SPr) (ls : List SLd) (cs : List SCp) : Bool := decide (ps.length ≤ 4096) && (decide (ls.length ≤ 1024) && (decide (cs.length ≤ 1024) && (risPairs ps && (risLoads ls && risCaps cs))))
/-- The block of constraints and its three lists. -/
structure RuAt (W : World) (g : Nat) (A1 : Option Addr) (c1 : Nat) (ps : List SPr) (A2 : Option Addr) (c2 : Nat) (ls : List SLd) (A3 : Option Addr) (c3 : Nat) (cs : List SCp) : Prop where
 g : W.heap[g]? = some (.cells #[.slice A1 ps.length c1, .slice A2 ls.length c2, .slice A3 cs.length c3] 44 (0, 0))
 p : Kd.C k84 W A1 ps.length ps
 l : Kd.C k97 W A2 ls.length ls
 c : Kd.C k99 W A3 cs.length cs
section
variable {W W' : World} {g : Nat} {A1 : Option Addr} {c1 : Nat} {ps : List SPr} {A2 : Option Addr} {c2 : Nat} {ls : List SLd} {A3 : Option Addr} {c3 : Nat} {cs : List SCp}
theorem RuAt.step (h : RuAt W g A1 c1 ps A2 c2 ls A3 c3 cs) (hb : Below W.heap.size W W') : RuAt W' g A1 c1 ps A2 c2 ls A3 c3 cs :=
 ⟨by rw [hb.block _ (Array.getElem?_eq_some_iff.1 h.g).1]; exact h.g, Kd.C_below h.p hb, Kd.C_below h.l hb, Kd.C_below h.c hb⟩
theorem RuAt.at (h : RuAt W g A1 c1 ps A2 c2 ls A3 c3 cs) : W.cell? ⟨g, 0, none⟩ = some (.slice A1 ps.length c1) ∧ W.cell? ⟨g, 1, none⟩ = some (.slice A2 ls.length c2) ∧ W.cell? ⟨g, 2, none⟩ = some (.slice A3 cs.length c3) :=
 ⟨(blk_cell h.g 0).trans rfl, (blk_cell h.g 1).trans rfl, (blk_cell h.g 2).trans rfl⟩
end

set_option maxHeartbeats 4000000 in
set_option maxRecDepth 100000 in
theorem validRules_calls (w0 w : World) (A1 : Option Addr) (c1 : Nat) (ps : List SPr) (A2 : Option Addr) (c2 : Nat) (ls : List SLd) (A3 : Option Addr) (c3 : Nat) (cs : List SCp)
  (hB : Below w0.heap.size w0 w) (h1 : Kd.C k84 w A1 ps.length ps) (h2 : Kd.C k97 w A2 ls.length ls) (h3 : Kd.C k99 w A3 cs.length cs) :
  Calls Try.prog 42 #[.agg #[.slice A1 ps.length c1, .slice A2 ls.length c2, .slice A3 cs.length c3]] w (fun r w' => r = .returned (.bool (rulesB ps ls cs)) ∧ Below w0.heap.size w0 w') := by
 have HR := Lib.hid (show RuAt (w.alloc (.cells #[.slice A1 ps.length c1, .slice A2 ls.length c2, .slice A3 cs.length c3] 44)) w.heap.size A1 c1 ps A2 c2 ls A3 c3 cs from ⟨blk_new _ _, Kd.C_alloc h1 _, Kd.C_alloc h2 _, Kd.C_alloc h3 _⟩)
 have HB := Lib.hid (below_alloc' hB (.cells #[.slice A1 ps.length c1, .slice A2 ls.length c2, .slice A3 cs.length c3] 44))
 clear hB h1 h2 h3
 by_cases a1 : ps.length ≤ 4096
 case neg =>
  have d1 : decide ((ps.length : Int) ≤ 4096) = false := decide_eq_false (by omega)
  have HX := Lib.hid (show rulesB ps ls cs = false by unfold rulesB; rw [decide_eq_false a1]; rfl)
  clear a1
  go_enter Try.func42, Try.ntmps42
  go_wp2_with fail
  go_ret
  exact ⟨by rw [HX.out]; rfl, HB.out⟩
 have d1 : decide ((ps.length : Int) ≤ 4096) = true := decide_eq_true (by omega)
 by_cases a2 : ls.length ≤ 1024
 case neg =>
  have d2 : decide ((ls.length : Int) ≤ 1024) = false := decide_eq_false (by omega)
  have HX := Lib.hid (show rulesB ps ls cs = false by unfold rulesB; rw [decide_eq_false a2]; simp)
  clear a1 a2
  go_enter Try.func42, Try.ntmps42
  go_wp2_with fail
  go_ret
  exact ⟨by rw [HX.out]; rfl, HB.out⟩
 have d2 : decide ((ls.length : Int) ≤ 1024) = true := decide_eq_true (by omega)
 by_cases a3 : cs.length ≤ 1024
 case neg =>
  have d3 : decide ((cs.length : Int) ≤ 1024) = false := decide_eq_false (by omega)
  have HX := Lib.hid (show rulesB ps ls cs = false by unfold rulesB; rw [decide_eq_false a3]; simp)
  clear a1 a2 a3
  go_enter Try.func42, Try.ntmps42
  go_wp2_with fail
  go_ret
  exact ⟨by rw [HX.out]; rfl, HB.out⟩
 have d3 : decide ((cs.length : Int) ≤ 1024) = true := decide_eq_true (by omega)
 have HX := Lib.hid (show rulesB ps ls cs = (risPairs ps && (risLoads ls && risCaps cs)) by unfold rulesB; rw [decide_eq_true a1, decide_eq_true a2, decide_eq_true a3]; rfl)
 have HL := Lib.hid (show ps.length ≤ 100000000 ∧ ls.length ≤ 100000000 ∧ cs.length ≤ 100000000 by omega)
 clear a1 a2 a3
 obtain ⟨hs0, hs1, hs2⟩ := HR.out.at
 go_enter Try.func42, Try.ntmps42
 go_wp2_with fail
 refine (risPairs_calls _ _ A1 c1 ps (Below.refl _ _) HR.out.p HL.out.1).mono ?_
 rintro r w2 ⟨rfl, hB2, _⟩
 have HR2 := Lib.hid (HR.out.step hB2)
 have HB2 := Lib.hid (below_then HB.out HB.out.size hB2)
 clear hB2 HR HB hs0 hs1 hs2
 obtain ⟨hs0, hs1, hs2⟩ := HR2.out.at
 generalize hrp : risPairs ps = rp
 rw [hrp] at HX
 clear hrp
 cases rp with
 | false =>
  go_wp2_with fail
  go_ret
  exact ⟨by rw [HX.out]; rfl, HB2.out⟩
 | true =>
  go_wp2_with fail
  refine (risLoads_calls _ _ A2 c2 ls (Below.refl _ _) HR2.out.l HL.out.2.1).mono ?_
  rintro r w3 ⟨rfl, hB3, _⟩
  have HR3 := Lib.hid (HR2.out.step hB3)
  have HB3 := Lib.hid (below_then HB2.out HB2.out.size hB3)
  clear hB3 HR2 HB2 hs0 hs1 hs2
  obtain ⟨hs0, hs1, hs2⟩ := HR3.out.at
  generalize hrp : risLoads ls = rl
  rw [hrp] at HX
  clear hrp
  cases rl with
  | false =>
   go_wp2_with fail
   go_ret
   exact ⟨by rw [HX.out]; rfl, HB3.out⟩
  | true =>
   go_wp2_with fail
   refine (risCaps_calls _ _ A3 c3 cs (Below.refl _ _) HR3.out.c HL.out.2.2).mono ?_
   rintro r w4 ⟨rfl, hB4, _⟩
   have HB4 := Lib.hid (below_then HB3.out HB3.out.size hB4)
   clear hB4 HR3 HB3 hs0 hs1 hs2
   generalize hrp : risCaps cs = rc
   rw [hrp] at HX
   clear hrp
   cases rc with
   | false =>
    go_wp2_with fail
    go_ret
    exact ⟨by rw [HX.out]; rfl, HB4.out⟩
   | true =>
    go_wp2_with fail
    go_ret
    exact ⟨by rw [HX.out]; rfl, HB4.out⟩
end Go.Proofs.Ytenhigpeafaidaa.Q
-- Bf
namespace Go.Proofs.Ytenhigpeafaidaa.Wire
open Go.RowKit Go.Maps Go.Proofs.YtenhigpeafaidaaW.PrintWords Go.Proofs.YtenhigpeafaidaaW.PrintLast Go.Proofs.YtenhigpeafaidaaW.PrintMore
set_option linter.unusedVariables false
set_option linter.unusedSimpArgs false

/-- The place of a number in a list, counted from k, or -1. -/
def ixL (v : Int) : List Int → Nat → Int
 | [], _ => -1
 | x :: r, k => if v = x then (k : Int) else ixL v r (k + 1)
theorem ixL_range (v : Int) : ∀ (l : List Int) (k : Nat), ixL v l k = -1 ∨ ∃ i : Nat, ixL v l k = (i : Int) ∧ k ≤ i ∧ i < k + l.length
 | [], k => .inl rfl
 | x :: r, k => by
  unfold ixL
  by_cases h : v = x
  ·
   rw [if_pos h]; exact .inr ⟨k, rfl, Nat.le_refl _, by simp⟩
  ·
   rw [if_neg h]
   rcases ixL_range v r (k + 1) with h1 | ⟨i, h1, h2, h3⟩
   ·
    exact .inl h1
   ·
    exact .inr ⟨i, h1, by omega, by simp; omega⟩
set_option maxHeartbeats 4000000 in
set_option maxRecDepth 100000 in
theorem sIndex_calls (w : World) (A : Option Addr) (c : Nat) (l : List Int) (v : Int) (hC : (Kd.int .i64).C w A l.length l) (hl : l.length ≤ 1000000000) :
  Calls Try.prog 55 #[.slice A l.length c, .int .i64 v] w (fun r w' => r = .returned (.int .i64 (ixL v l 0)) ∧ w' = w) := by
 have HC := Lib.hid hC
 have HL := Lib.hid hl
 obtain ⟨z, hz⟩ : ∃ z, ixL v l 0 = z := ⟨_, rfl⟩
 rw [hz]
 have HZ := Lib.hid (show z = ixL v (l.drop 0) 0 by rw [List.drop_zero]; exact hz.symm)
 clear hC hl hz
 go_enter Try.func55, Try.ntmps55
 go_wp2_with fail
 go_loopg [8] l.length (fun g v8 w' => ∃ k : Nat, v8 = .int .i64 k ∧ k ≤ l.length ∧ Aside0 (g + k = l.length) ∧ Aside0 (z = ixL v (l.drop k) k) ∧ w' = w)
 case atStart => exact ⟨0, rfl, Nat.zero_le _, ⟨rfl⟩, ⟨HZ.out⟩, rfl⟩
 case round =>
  obtain ⟨k, rfl, hk, HM, HQ, rfl⟩ := hrel
  by_cases hlt : k < l.length
  ·
   have q1 : decide ((k : Int) < (l.length : Int)) = true := decide_eq_true (by omega)
   obtain ⟨ad, hA, hcell⟩ := C_at HC.out k hlt
   subst hA
   have hq := HQ.out
   rw [List.drop_eq_getElem_cons hlt, show l[k] = l.getD k 0 by simp [List.getD, hlt]] at hq
   unfold ixL at hq
   clear HQ
   by_cases hx : v = l.getD k 0
   ·
    rw [if_pos hx] at hq
    have b1 : (v == l.getD k 0) = true := beq_iff_eq.mpr hx
    clear hx
    have HQ2 := Lib.hid hq
    clear hq
    generalize l.getD k 0 = x at hcell b1
    go_wp2_with fail
    go_ret
    exact ⟨by rw [HQ2.out]; rfl, rfl⟩
   ·
    rw [if_neg hx] at hq
    have b1 : (v == l.getD k 0) = false := beq_eq_false_iff_ne.mpr hx
    clear hx
    have HQ2 := Lib.hid hq
    clear hq
    generalize l.getD k 0 = x at hcell b1
    go_wp2_with fail
    go_roundg (l.length - (k + 1))
    case measure => have := HM.out; omega
    case rel => have hll := HL.out; exact ⟨k + 1, by rw [show wrap64 ((k : Int) + 1) = ((k + 1 : Nat) : Int) by unfold wrap64; omega], by omega, ⟨by omega⟩, ⟨HQ2.out⟩, rfl⟩
  ·
   have q1 : decide ((k : Int) < (l.length : Int)) = false := decide_eq_false (by omega)
   have HQ2 := Lib.hid (show z = -1 by rw [HQ.out, List.drop_eq_nil_of_le (by omega)]; rfl)
   go_wp2_with fail
   go_ret
   exact ⟨by rw [HQ2.out]; rfl, rfl⟩

theorem one_set {w : World} {g t : Nat} {a : Value} (h : w.heap[g]? = some (.cells #[a] t (0, 0))) (v : Value) : (w.setCell ⟨g, 0, none⟩ v).heap[g]? = some (.cells #[v] t (0, 0)) := by
 rw [blk_set h]; rfl
/-- The next target and the error. -/
def nextV (n : Int) : Int := if ixL n tabL 0 < 0 then 0 else if ixL n tabL 0 = 10 then 0 else tabL.getD ((ixL n tabL 0).toNat + 1) 0
def nextE (n : Int) : Int := if ixL n tabL 0 < 0 then 2 else if ixL n tabL 0 = 10 then 9 else 0
def NextPost (w0 : World) (v e : Int) (r : Ending) (w' : World) : Prop := r = .returned (.tuple #[.agg #[.int .i64 v], .int .i64 e]) ∧ Below w0.heap.size w0 w'
theorem tab_cells {w : World} {g : Nat} (h : w.heap[g]? = some (.cells tabV 107 (0, 0))) : (Kd.int .i64).C w (some ⟨g, 0, none⟩) 11 tabL := C_blk h tabL rfl (by decide)
set_option maxHeartbeats 4000000 in
set_option maxRecDepth 100000 in
theorem next_calls (w0 w : World) (n : Int) (hB : Below w0.heap.size w0 w) :
  Calls Try.prog 27 #[.agg #[.int .i64 n]] w (NextPost w0 (nextV n) (nextE n)) := by
 have HSZ := Lib.hid hB.size
 obtain ⟨W1, hW1⟩ : ∃ W1, W1 = (w.alloc (.cells #[.int .i64 n] 34)).alloc (.cells #[.int .i64 0] 34) := ⟨_, rfl⟩
 have HB1 := Lib.hid (show Below w0.heap.size w0 W1 by rw [hW1]; exact below_alloc' (below_alloc' hB _) _)
 have HG := Lib.hid (show W1.heap[w.heap.size]? = some (.cells #[.int .i64 n] 34 (0, 0)) by rw [hW1]; exact blk_alloc (blk_new _ _) _)
 obtain ⟨gb, hgb⟩ : ∃ gb, gb = w.heap.size + 1 := ⟨_, rfl⟩
 have HR := Lib.hid (show W1.heap[gb]? = some (.cells #[.int .i64 0] 34 (0, 0)) by
  rw [hW1, hgb]; have := blk_new (w.alloc (.cells #[.int .i64 n] 34)) (.cells #[.int .i64 0] 34); simpa using this)
 have HT := Lib.hid (table_calls w0 W1 HB1.out)
 have HWW := Lib.hid hW1.symm
 have HGB := Lib.hid hgb
 clear hB hW1 hgb
 go_enter Try.func27, Try.ntmps27
 go_wp2_with fail
 rw [HWW.out]
 refine HT.out.mono ?_
 rintro r w2 ⟨b, rfl, hb, hT, hB2, hK2⟩
 have HG2 := Lib.hid (blk_alloc (blk_kept HG.out hK2 id) (.cells tabV 107))
 have HR2 := Lib.hid (blk_alloc (blk_kept HR.out hK2 id) (.cells tabV 107))
 have HT2 := Lib.hid (blk_new w2 (.cells tabV 107))
 have HB2 := Lib.hid (below_alloc' hB2 (.cells tabV 107))
 clear hb hT hB2 hK2 HT HB1 HG HR
 unfold tabV
 go_wp2_with fail
 have HC2 := Lib.hid (tab_cells HT2.out)
 obtain ⟨W3, hW3⟩ : ∃ W3, W3 = w2.alloc (.cells tabV 107) := ⟨_, rfl⟩
 obtain ⟨g3, hg3⟩ : ∃ g3, g3 = w2.heap.size := ⟨_, rfl⟩
 rw [← hW3] at HG2 HR2 HT2 HB2 HC2
 rw [← hg3] at HT2 HC2
 have hWW : w2.alloc (.cells tabV 107) = W3 := hW3.symm
 unfold tabV at hWW
 rw [hWW, ← hg3]
 clear hWW hW3 hg3
 obtain ⟨ix, hix⟩ : ∃ ix, ixL n tabL 0 = ix := ⟨_, rfl⟩
 have HIX := Lib.hid (show ∀ W, Kept W3 W (fun _ => False) → Calls Try.prog 55 #[.slice (some ⟨g3, 0, none⟩) 11 11, .int .i64 n] W (fun r w' => r = .returned (.int .i64 ix) ∧ w' = W) from fun W hk => by
  have := sIndex_calls W (some ⟨g3, 0, none⟩) 11 tabL n (C_none HC2.out hk) (by decide)
  rw [hix] at this
  exact this)
 have HV := Lib.hid (show nextV n = if ix < 0 then 0 else if ix = 10 then 0 else tabL.getD (ix.toNat + 1) 0 by unfold nextV; rw [hix])
 have HE := Lib.hid (show nextE n = if ix < 0 then 2 else if ix = 10 then 9 else 0 by unfold nextE; rw [hix])
 have HRX := Lib.hid (show ix = -1 ∨ ∃ i : Nat, ix = (i : Int) ∧ i < 11 from by
  rcases ixL_range n tabL 0 with h | ⟨i, h1, h2, h3⟩
  ·
   exact .inl (hix ▸ h)
  ·
   exact .inr ⟨i, hix ▸ h1, by simpa [tabL] using h3⟩)
 clear hix
 refine wp_region_noPanic ?_
 refine wp_region_held_drew (S := fun W => Kept W3 W (fun _ => False) ∧ Below W3.heap.size W3 W) (by kernel_rfl) ⟨(Kept.refl _ _).drew, below_drew (Below.refl _ _)⟩ (fun hS => ?_)
 (refine wpAnyH_takeG (i := 0) (by kernel_rfl) (by kernel_rfl) (by kernel_rfl) (fun _ _ _ _ _ h => h) hS ?_; intro oi hoi; simp only [List.getElem?_toArray, List.getElem?_cons_succ, List.getElem?_cons_zero] at hoi; cases hoi; refine ⟨?_, by rfl, ?_, ?_⟩; rotate_left; (focus (intro wS hSw; skip; go_simp; (first | done | with_reducible rfl))); (try simp only [Act.put, List.setIfInBounds_toArray, List.set_cons_zero, List.set_cons_succ]))
 (refine wpAnyH_takeG (i := 1) (by kernel_rfl) (by kernel_rfl) (by kernel_rfl) (fun _ _ _ _ _ h => h) hS ?_; intro oi hoi; simp only [List.getElem?_toArray, List.getElem?_cons_succ, List.getElem?_cons_zero] at hoi; cases hoi; refine ⟨?_, by rfl, ?_, ?_⟩; rotate_left; (focus (intro wS hSw; skip; go_simp; (first | done | with_reducible rfl))); (try simp only [Act.put, List.setIfInBounds_toArray, List.set_cons_zero, List.set_cons_succ]))
 (refine wpAnyH_takeG (i := 2) (by kernel_rfl) (by kernel_rfl) (by kernel_rfl) (fun _ _ _ _ _ h => h) hS ?_; intro oi hoi; simp only [List.getElem?_toArray, List.getElem?_cons_succ, List.getElem?_cons_zero] at hoi; cases hoi; refine ⟨?_, by rfl, ?_, ?_⟩; rotate_left; (focus (intro wS hSw; have g0 := (blk_cell (blk_kept HG2.out hSw.1 id) 0).trans rfl; go_simp; (first | done | with_reducible rfl))); (try simp only [Act.put, List.setIfInBounds_toArray, List.set_cons_zero, List.set_cons_succ]))
 (refine wpAnyH_oneG (i := 3) (by kernel_rfl) ?_; intro oi hoi K' hK; simp only [List.getElem?_toArray, List.getElem?_cons_succ, List.getElem?_cons_zero] at hoi; cases hoi; go_simp; refine (HIX.out _ hS.1).mono ?_; rintro r w4 ⟨rfl, rfl⟩; have HK4 := Lib.hid hS.1; have HB4 := Lib.hid hS.2; go_wp2_with fail)
 (refine hK.out _ _ ?_ (fun hS => ?_); (focus (exact ⟨HK4.out, HB4.out⟩)); clear hK K'; (try simp only [Act.put, List.setIfInBounds_toArray, List.set_cons_zero, List.set_cons_succ]))
 (refine wpAnyH_takeG (i := 4) (by kernel_rfl) (by kernel_rfl) (by kernel_rfl) (fun _ _ _ _ _ h => h) hS ?_; intro oi hoi; simp only [List.getElem?_toArray, List.getElem?_cons_succ, List.getElem?_cons_zero] at hoi; cases hoi; refine ⟨?_, by rfl, ?_, ?_⟩; rotate_left; (focus (intro wS hSw; skip; go_simp; (first | done | with_reducible rfl))); (try simp only [Act.put, List.setIfInBounds_toArray, List.set_cons_zero, List.set_cons_succ]))
 refine wpAnyH_done (by kernel_rfl) ?_ _
 refine NoPanic.normal ?_
 have HB5 := Lib.hid (below_then HB2.out HB2.out.size HB4.out)
 have HT5 := Lib.hid (C_none HC2.out HK4.out)
 have HR5 := Lib.hid (blk_kept HR2.out HK4.out id)
 clear HB2 HT2 HC2 HG2 HB4 HIX HWW
 have hrx := HRX.out
 clear HRX
 rcases hrx with rfl | ⟨i, rfl, hi⟩
 ·
  have HX := Lib.hid (show nextV n = 0 ∧ nextE n = 2 from ⟨HV.out, HE.out⟩)
  have ez0 : W3.cell? ⟨gb, 0, none⟩ = some (.int .i64 0) := (blk_cell HR2.out 0).trans rfl
  have ef0 : W3.frozen? ⟨gb, 0, none⟩ = false := blk_frozen HR2.out _
  rw [← HGB.out]
  go_wp2_with fail
  refine bodyPost_ret (v := .tuple #[.agg #[.int .i64 0], .int .i64 2]) (results_ct Try.results27 _ _ gb _ _ _ _ rfl (one_set (w := W3.drew) HR2.out (.int .i64 0)) Try.underlying34 rfl (by kernel_rfl)) rfl ⟨by rw [HX.out.1, HX.out.2], ?_⟩
  exact below_drew ((show Below w0.heap.size w0 W3 from ⟨HB5.out.os, HB5.out.tape, HB5.out.output, HB5.out.size, HB5.out.block⟩).setCell (p := ⟨gb, 0, none⟩) (by have := HSZ.out; have := HGB.out; simp; omega) _)
 ·
  by_cases hi2 : i = 10
  ·
   subst hi2
   have HX := Lib.hid (show nextV n = 0 ∧ nextE n = 9 from ⟨HV.out, HE.out⟩)
   have ez0 : W3.cell? ⟨gb, 0, none⟩ = some (.int .i64 0) := (blk_cell HR2.out 0).trans rfl
   have ef0 : W3.frozen? ⟨gb, 0, none⟩ = false := blk_frozen HR2.out _
   rw [← HGB.out]
   go_wp2_with fail
   refine bodyPost_ret (v := .tuple #[.agg #[.int .i64 0], .int .i64 9]) (results_ct Try.results27 _ _ gb _ _ _ _ rfl (one_set (w := W3.drew) HR2.out (.int .i64 0)) Try.underlying34 rfl (by kernel_rfl)) rfl ⟨by rw [HX.out.1, HX.out.2], ?_⟩
   exact below_drew ((show Below w0.heap.size w0 W3 from ⟨HB5.out.os, HB5.out.tape, HB5.out.output, HB5.out.size, HB5.out.block⟩).setCell (p := ⟨gb, 0, none⟩) (by have := HSZ.out; have := HGB.out; simp; omega) _)
  ·
   have HX := Lib.hid (show nextV n = tabL.getD (i + 1) 0 ∧ nextE n = 0 from by
    have h1 := HV.out; have h2 := HE.out
    rw [if_neg (by omega), if_neg (by omega)] at h1 h2
    exact ⟨by rw [h1]; rfl, h2⟩)
   have hi3 : i < 10 := by omega
   have ez0 : W3.cell? ⟨gb, 0, none⟩ = some (.int .i64 0) := (blk_cell HR2.out 0).trans rfl
   have ef0 : W3.frozen? ⟨gb, 0, none⟩ = false := blk_frozen HR2.out _
   obtain ⟨ad, hA, hcell⟩ := C_at HT5.out (i + 1) (by omega)
   cases hA
   obtain ⟨x, hx⟩ : ∃ x, tabL.getD (i + 1) 0 = x := ⟨_, rfl⟩
   rw [hx] at hcell HX
   clear hx HV HE hi hi2
   rw [← HGB.out]
   obtain rfl | rfl | rfl | rfl | rfl | rfl | rfl | rfl | rfl | rfl : i = 0 ∨ i = 1 ∨ i = 2 ∨ i = 3 ∨ i = 4 ∨ i = 5 ∨ i = 6 ∨ i = 7 ∨ i = 8 ∨ i = 9 := by omega
   all_goals
    have hcell2 : W3.cell? ⟨g3, _, none⟩ = some (.int .i64 x) := hcell
    simp only [Nat.zero_add, Nat.reduceAdd] at hcell2
    clear hcell hi3
    go_wp2_with fail
    refine bodyPost_ret (v := .tuple #[.agg #[.int .i64 x], .int .i64 0]) (results_ct Try.results27 _ _ gb _ _ _ _ rfl (one_set (w := W3.drew) HR2.out (.int .i64 x)) Try.underlying34 rfl (by kernel_rfl)) rfl ⟨by rw [HX.out.1, HX.out.2], ?_⟩
    exact below_drew ((show Below w0.heap.size w0 W3 from ⟨HB5.out.os, HB5.out.tape, HB5.out.output, HB5.out.size, HB5.out.block⟩).setCell (p := ⟨gb, 0, none⟩) (by have := HSZ.out; have := HGB.out; simp; omega) _)
end Go.Proofs.Ytenhigpeafaidaa.Wire
-- Vl
namespace Go.Proofs.Ytenhigpeafaidaa.Q
open Go.RowKit Go.Maps Go.Proofs.YtenhigpeafaidaaW.PrintWords Go.Proofs.YtenhigpeafaidaaW.PrintLast Go.Proofs.YtenhigpeafaidaaW.PrintMore Go.Proofs.Ytenhigpeafaidaa.Wire
set_option linter.unusedVariables false
set_option linter.unusedSimpArgs false

abbrev SBn := S78
/-- The bands rise, each in the table. -/
def bndB : Int → List Int → Bool
 | _, [] => true
 | p, b :: r => decide (p < b) && (decide (b < 4) && bndB b r)
def vbB : Option Int → List SBn → Bool
 | _, [] => true
 | p, x :: r => (match p with | none => true | some y => decide (y < x.f0)) && (!x.f1.isEmpty && (bndB 0 x.f1 && (inS x.f0 && vbB (some x.f0) r)))
def prevS (l : List SBn) : Nat → Option Int
 | 0 => none
 | k + 1 => some (l.getD k z78).f0
def stS (l : List SBn) : Nat → Bool := l.foldl (fun S x => orS S (listS [x.f0])) (listS [])
theorem getD_q {α : Type} (l : List α) (z : α) (k : Nat) (h : k < l.length) : l[k] = l.getD k z := by simp [List.getD, h]
theorem stS_step (l : List SBn) (k : Nat) (h : k < l.length) : stS (l.take (k + 1)) = orS (stS (l.take k)) (listS [(l.getD k z78).f0]) := by
 unfold stS
 rw [List.take_add_one, List.getElem?_eq_getElem h, getD_q l z78 k h]
 simp [List.foldl_append]
theorem vbB_step (l : List SBn) (p : Option Int) (k : Nat) (h : k < l.length) : vbB p (l.drop k) = ((match p with | none => true | some y => decide (y < (l.getD k z78).f0)) && (!(l.getD k z78).f1.isEmpty && (bndB 0 (l.getD k z78).f1 && (inS (l.getD k z78).f0 && vbB (some (l.getD k z78).f0) (l.drop (k + 1)))))) := by
 rw [List.drop_eq_getElem_cons h, getD_q l z78 k h]; rfl
theorem bndB_step (l : List Int) (p : Int) (k : Nat) (h : k < l.length) : bndB p (l.drop k) = (decide (p < l.getD k 0) && (decide (l.getD k 0 < 4) && bndB (l.getD k 0) (l.drop (k + 1)))) := by
 rw [List.drop_eq_getElem_cons h, getD_q l 0 k h]; rfl
theorem heap_Bands : Kd.Heap k78 := Kd.heap_iso _ (Kd.heap_pair (Kd.heap_int .i64) (Kd.heap_slice 3 (Kd.heap_int .i64)))
theorem C_noneBands {w w' : World} {A : Option Addr} {n : Nat} {xs : List SBn} (h : Kd.C k78 w A n xs) (hk : Kept w w' (fun _ => False)) : Kd.C k78 w' A n xs :=
 heap_Bands.C (fun i hlt => hk.2 i hlt id) h
def ValSet (w0 : World) (l : List SBn) (r : Ending) (w' : World) : Prop :=
 ((vbB none l = true ∧ r = .returned (.tuple #[.agg #[.int .u64 (wdS (stS l) 0), .int .u64 (wdS (stS l) 1), .int .u64 (wdS (stS l) 2), .int .u64 (wdS (stS l) 3), .int .u64 (wdS (stS l) 4), .int .u64 (wdS (stS l) 5), .int .u64 (wdS (stS l) 6), .int .u64 (wdS (stS l) 7)], .bool true])) ∨ (vbB none l = false ∧ ∃ a0 a1 a2 a3 a4 a5 a6 a7 : Int, r = .returned (.tuple #[.agg #[.int .u64 a0, .int .u64 a1, .int .u64 a2, .int .u64 a3, .int .u64 a4, .int .u64 a5, .int .u64 a6, .int .u64 a7], .bool false]))) ∧ Below w0.heap.size w0 w'
theorem ValSet.bad {w0 w' : World} {l : List SBn} {vb : Bool} (h : vbB none l = vb) (he : vb = false) (a0 a1 a2 a3 a4 a5 a6 a7 : Int) (hB : Below w0.heap.size w0 w') : ValSet w0 l (.returned (.tuple #[.agg #[.int .u64 a0, .int .u64 a1, .int .u64 a2, .int .u64 a3, .int .u64 a4, .int .u64 a5, .int .u64 a6, .int .u64 a7], .bool false])) w' := ⟨.inr ⟨h.trans he, a0, a1, a2, a3, a4, a5, a6, a7, rfl⟩, hB⟩
theorem ValSet.good {w0 w' : World} {l : List SBn} {vb : Bool} {S : Nat → Bool} (h : vbB none l = vb) (he : vb = true) (hS : stS l = S) (hB : Below w0.heap.size w0 w') : ValSet w0 l (.returned (.tuple #[.agg #[.int .u64 (wdS (S) 0), .int .u64 (wdS (S) 1), .int .u64 (wdS (S) 2), .int .u64 (wdS (S) 3), .int .u64 (wdS (S) 4), .int .u64 (wdS (S) 5), .int .u64 (wdS (S) 6), .int .u64 (wdS (S) 7)], .bool true])) w' := by
 subst hS; exact ⟨.inl ⟨h.trans he, rfl⟩, hB⟩

set_option maxHeartbeats 8000000 in
set_option maxRecDepth 100000 in
theorem bandValid_calls (w0 w : World) (A : Option Addr) (c : Nat) (l : List SBn) (hB : Below w0.heap.size w0 w) (hC : Kd.C k78 w A l.length l) (hl : l.length ≤ 1000000000) :
  Calls Try.prog 41 #[.slice A l.length c] w (ValSet w0 l) := by
 have HSZ := Lib.hid hB.size
 have HC := Lib.hid hC
 have HL := Lib.hid hl
 obtain ⟨W1, hW1⟩ : ∃ W1, W1 = w.alloc (.cells #[.int .u64 0, .int .u64 0, .int .u64 0, .int .u64 0, .int .u64 0, .int .u64 0, .int .u64 0, .int .u64 0] 92) := ⟨_, rfl⟩
 have HB1 := Lib.hid (show Below w0.heap.size w0 W1 by rw [hW1]; exact below_alloc' hB _)
 have HK1 := Lib.hid (show Kept w W1 (fun _ => False) by rw [hW1]; exact (Kept.refl w (fun _ => False)).alloc _)
 have HG := Lib.hid (show SetAt W1 w.heap.size (stS (l.take 0)) by
  rw [hW1]
  unfold SetAt
  rw [setA_ext (T := noS) (fun i _ => by simp [stS, listS, noS]), setA_no]
  exact blk_new _ _)
 have HWW := Lib.hid hW1.symm
 obtain ⟨vb, hvb⟩ : ∃ vb, vbB none l = vb := ⟨_, rfl⟩
 have HVB := Lib.hid hvb
 have HV0 := Lib.hid (show vb = vbB (prevS l 0) (l.drop 0) from hvb.symm)
 obtain ⟨gs, hgs⟩ : ∃ gs, gs = w.heap.size := ⟨_, rfl⟩
 rw [← hgs] at HG
 have HGS := Lib.hid hgs
 clear hB hC hl hW1 hvb hgs
 go_enter Try.func41, Try.ntmps41
 go_wp2_with fail
 rw [HWW.out, ← HGS.out]
 go_loopg [11] l.length (fun g v11 w' => ∃ k : Nat, v11 = .int .i64 k ∧ k ≤ l.length ∧ Aside0 (g + k = l.length) ∧ Aside0 (vb = vbB (prevS l k) (l.drop k)) ∧ Aside0 (SetAt w' gs (stS (l.take k))) ∧ Aside0 (Below w0.heap.size w0 w') ∧ Aside0 (Kept w w' (fun _ => False)))
 case atStart => exact ⟨0, rfl, Nat.zero_le _, ⟨rfl⟩, ⟨HV0.out⟩, ⟨HG.out⟩, ⟨HB1.out⟩, ⟨HK1.out⟩⟩
 case round =>
  obtain ⟨k, rfl, hk, HM, HV, HS, HB, HK⟩ := hrel
  have HGL := Lib.hid (show w0.heap.size ≤ gs by have := HSZ.out; have := HGS.out; omega)
  by_cases h : k < l.length
  ·
   have q1 : decide ((k : Int) < (l.length : Int)) = true := decide_eq_true (by omega)
   have HVS := Lib.hid (HV.out.trans (vbB_step l (prevS l k) k h))
   have HST := Lib.hid (stS_step l k h)
   have HCr := Lib.hid (C_noneBands HC.out HK.out)
   obtain ⟨ad, A2, c2, hA, e0, e1, hl2, hC2⟩ := at_T78 HCr.out (k : Int) (by omega) (by omega)
   rw [show rd_T78 l (k : Int) = l.getD k z78 by simp [rd_T78]] at e0 e1 hl2 hC2
   simp only [Int.toNat_natCast] at e0 e1
   obtain ⟨x, hx⟩ : ∃ x, l.getD k z78 = x := ⟨_, rfl⟩
   rw [hx] at e0 e1 hl2 hC2 HVS HST
   subst hA
   obtain ⟨S, hS⟩ : ∃ S, stS (l.take k) = S := ⟨_, rfl⟩
   rw [hS] at HS HST
   obtain ⟨W1, hW1⟩ : ∃ W1, W1 = wr.alloc (.cells #[.int .i64 x.f0, .slice A2 x.f1.length c2] 78) := ⟨_, rfl⟩
   have HB1 := Lib.hid (show Below w0.heap.size w0 W1 by rw [hW1]; exact below_alloc' HB.out _)
   have HK1 := Lib.hid (show Kept wr W1 (fun _ => False) by rw [hW1]; exact (Kept.refl _ _).alloc _)
   obtain ⟨gx, hgx⟩ : ∃ gx, gx = wr.heap.size := ⟨_, rfl⟩
   have HG1 := Lib.hid (show W1.heap[gx]? = some (.cells #[.int .i64 x.f0, .slice A2 x.f1.length c2] 78 (0, 0)) by rw [hW1, hgx]; exact blk_new _ _)
   have HS1 := Lib.hid (show SetAt W1 gs S by rw [hW1]; exact blk_alloc HS.out _)
   have HC1 := Lib.hid (C_none hC2 HK1.out)
   have HW1 := Lib.hid hW1.symm
   have HGX := Lib.hid hgx
   have HX := Lib.hid hx
   have HL2 := Lib.hid hl2
   have HSS := Lib.hid hS
   clear hW1 hgx hl2 hC2 hS HS HG HB hx
   obtain ⟨pk, hpk⟩ : ∃ pk, (match prevS l k with | none => true | some y => decide (y < x.f0)) = pk := ⟨_, rfl⟩
   rw [hpk] at HVS
   have HPK := Lib.hid hpk
   clear hpk
   go_upto_region 4 with fail
   rw [HW1.out, ← HGX.out]
   go_cut [34] from 16 to 33 (fun v w' => v = .bool (!(pk && !x.f1.isEmpty)) ∧ Kept W1 w' (fun _ => False) ∧ Below W1.heap.size W1 w')
   case first =>
    cases k with
    | zero =>
     have hp : pk = true := HPK.out.symm
     subst hp
     have q0 : decide ((0 : Int) < ((0 : Nat) : Int)) = false := by decide
     clear q1 e0 e1
     cases he : x.f1.isEmpty with
     | true =>
      have b1 : ((x.f1.length : Int) == 0) = true := by rw [List.isEmpty_iff.1 he]; rfl
      have HEM := Lib.hid he
      clear he
      refine wp_region_noPanic ?_
      refine wp_region_held_drew (S := fun W => Kept W1 W (fun _ => False) ∧ Below W1.heap.size W1 W) (by kernel_rfl) ⟨(Kept.refl _ _).drew, below_drew (Below.refl _ _)⟩ (fun hS => ?_)
      (refine wpAnyH_takeG (i := 0) (by kernel_rfl) (by kernel_rfl) (by kernel_rfl) (fun _ _ _ _ _ h => h) hS ?_; intro oi hoi; simp only [List.getElem?_toArray, List.getElem?_cons_succ, List.getElem?_cons_zero] at hoi; cases hoi; refine ⟨?_, by rfl, ?_, ?_⟩; rotate_left; (focus (intro wS hSw; skip; go_simp; (first | done | with_reducible rfl))); (try simp only [Act.put, List.setIfInBounds_toArray, List.set_cons_zero, List.set_cons_succ])); (refine wpAnyH_takeG (i := 1) (by kernel_rfl) (by kernel_rfl) (by kernel_rfl) (fun _ _ _ _ _ h => h) hS ?_; intro oi hoi; simp only [List.getElem?_toArray, List.getElem?_cons_succ, List.getElem?_cons_zero] at hoi; cases hoi; refine ⟨?_, by rfl, ?_, ?_⟩; rotate_left; (focus (intro wS hSw; skip; go_simp; (first | done | with_reducible rfl))); (try simp only [Act.put, List.setIfInBounds_toArray, List.set_cons_zero, List.set_cons_succ])); (refine wpAnyH_takeG (i := 2) (by kernel_rfl) (by kernel_rfl) (by kernel_rfl) (fun _ _ _ _ _ h => h) hS ?_; intro oi hoi; simp only [List.getElem?_toArray, List.getElem?_cons_succ, List.getElem?_cons_zero] at hoi; cases hoi; refine ⟨?_, by rfl, ?_, ?_⟩; rotate_left; (focus (intro wS hSw; skip; go_simp; (first | done | with_reducible rfl))); (try simp only [Act.put, List.setIfInBounds_toArray, List.set_cons_zero, List.set_cons_succ])); (refine wpAnyH_offG (i := 3) (by kernel_rfl) (by kernel_rfl) (by kernel_rfl) (fun _ _ _ _ _ h => h) hS ?_; intro oi hoi; simp only [List.getElem?_toArray, List.getElem?_cons_succ, List.getElem?_cons_zero] at hoi; cases hoi; refine ⟨by rfl, ?_⟩; (try simp only [Act.put, List.setIfInBounds_toArray, List.set_cons_zero, List.set_cons_succ])); (refine wpAnyH_offG (i := 4) (by kernel_rfl) (by kernel_rfl) (by kernel_rfl) (fun _ _ _ _ _ h => h) hS ?_; intro oi hoi; simp only [List.getElem?_toArray, List.getElem?_cons_succ, List.getElem?_cons_zero] at hoi; cases hoi; refine ⟨by rfl, ?_⟩; (try simp only [Act.put, List.setIfInBounds_toArray, List.set_cons_zero, List.set_cons_succ])); (refine wpAnyH_offG (i := 5) (by kernel_rfl) (by kernel_rfl) (by kernel_rfl) (fun _ _ _ _ _ h => h) hS ?_; intro oi hoi; simp only [List.getElem?_toArray, List.getElem?_cons_succ, List.getElem?_cons_zero] at hoi; cases hoi; refine ⟨by rfl, ?_⟩; (try simp only [Act.put, List.setIfInBounds_toArray, List.set_cons_zero, List.set_cons_succ])); (refine wpAnyH_offG (i := 6) (by kernel_rfl) (by kernel_rfl) (by kernel_rfl) (fun _ _ _ _ _ h => h) hS ?_; intro oi hoi; simp only [List.getElem?_toArray, List.getElem?_cons_succ, List.getElem?_cons_zero] at hoi; cases hoi; refine ⟨by rfl, ?_⟩; (try simp only [Act.put, List.setIfInBounds_toArray, List.set_cons_zero, List.set_cons_succ])); (refine wpAnyH_offG (i := 7) (by kernel_rfl) (by kernel_rfl) (by kernel_rfl) (fun _ _ _ _ _ h => h) hS ?_; intro oi hoi; simp only [List.getElem?_toArray, List.getElem?_cons_succ, List.getElem?_cons_zero] at hoi; cases hoi; refine ⟨by rfl, ?_⟩; (try simp only [Act.put, List.setIfInBounds_toArray, List.set_cons_zero, List.set_cons_succ])); (refine wpAnyH_offG (i := 8) (by kernel_rfl) (by kernel_rfl) (by kernel_rfl) (fun _ _ _ _ _ h => h) hS ?_; intro oi hoi; simp only [List.getElem?_toArray, List.getElem?_cons_succ, List.getElem?_cons_zero] at hoi; cases hoi; refine ⟨by rfl, ?_⟩; (try simp only [Act.put, List.setIfInBounds_toArray, List.set_cons_zero, List.set_cons_succ])); (refine wpAnyH_offG (i := 9) (by kernel_rfl) (by kernel_rfl) (by kernel_rfl) (fun _ _ _ _ _ h => h) hS ?_; intro oi hoi; simp only [List.getElem?_toArray, List.getElem?_cons_succ, List.getElem?_cons_zero] at hoi; cases hoi; refine ⟨by rfl, ?_⟩; (try simp only [Act.put, List.setIfInBounds_toArray, List.set_cons_zero, List.set_cons_succ])); (refine wpAnyH_offG (i := 10) (by kernel_rfl) (by kernel_rfl) (by kernel_rfl) (fun _ _ _ _ _ h => h) hS ?_; intro oi hoi; simp only [List.getElem?_toArray, List.getElem?_cons_succ, List.getElem?_cons_zero] at hoi; cases hoi; refine ⟨by rfl, ?_⟩; (try simp only [Act.put, List.setIfInBounds_toArray, List.set_cons_zero, List.set_cons_succ])); (refine wpAnyH_offG (i := 11) (by kernel_rfl) (by kernel_rfl) (by kernel_rfl) (fun _ _ _ _ _ h => h) hS ?_; intro oi hoi; simp only [List.getElem?_toArray, List.getElem?_cons_succ, List.getElem?_cons_zero] at hoi; cases hoi; refine ⟨by rfl, ?_⟩; (try simp only [Act.put, List.setIfInBounds_toArray, List.set_cons_zero, List.set_cons_succ])); (refine wpAnyH_takeG (i := 12) (by kernel_rfl) (by kernel_rfl) (by kernel_rfl) (fun _ _ _ _ _ h => h) hS ?_; intro oi hoi; simp only [List.getElem?_toArray, List.getElem?_cons_succ, List.getElem?_cons_zero] at hoi; cases hoi; refine ⟨?_, by rfl, ?_, ?_⟩; rotate_left; (focus (intro wS hSw; skip; go_simp; (first | done | with_reducible rfl))); (try simp only [Act.put, List.setIfInBounds_toArray, List.set_cons_zero, List.set_cons_succ])); (refine wpAnyH_takeG (i := 13) (by kernel_rfl) (by kernel_rfl) (by kernel_rfl) (fun _ _ _ _ _ h => h) hS ?_; intro oi hoi; simp only [List.getElem?_toArray, List.getElem?_cons_succ, List.getElem?_cons_zero] at hoi; cases hoi; refine ⟨?_, by rfl, ?_, ?_⟩; rotate_left; (focus (intro wS hSw; skip; go_simp; (first | done | with_reducible rfl))); (try simp only [Act.put, List.setIfInBounds_toArray, List.set_cons_zero, List.set_cons_succ])); (refine wpAnyH_takeG (i := 14) (by kernel_rfl) (by kernel_rfl) (by kernel_rfl) (fun _ _ _ _ _ h => h) hS ?_; intro oi hoi; simp only [List.getElem?_toArray, List.getElem?_cons_succ, List.getElem?_cons_zero] at hoi; cases hoi; refine ⟨?_, by rfl, ?_, ?_⟩; rotate_left; (focus (intro wS hSw; skip; go_simp; (first | done | with_reducible rfl))); (try simp only [Act.put, List.setIfInBounds_toArray, List.set_cons_zero, List.set_cons_succ]))
      (refine wpAnyH_takeG (i := 15) (by kernel_rfl) (by kernel_rfl) (by kernel_rfl) (fun _ _ _ _ _ h => h) hS ?_; intro oi hoi; simp only [List.getElem?_toArray, List.getElem?_cons_succ, List.getElem?_cons_zero] at hoi; cases hoi; refine ⟨?_, by rfl, ?_, ?_⟩; rotate_left; (focus (intro wS hSw; have g1 := (blk_cell (blk_kept HG1.out hSw.1 id) 1).trans rfl; go_simp; (first | done | with_reducible rfl))); (try simp only [Act.put, List.setIfInBounds_toArray, List.set_cons_zero, List.set_cons_succ]))
      (refine wpAnyH_takeG (i := 16) (by kernel_rfl) (by kernel_rfl) (by kernel_rfl) (fun _ _ _ _ _ h => h) hS ?_; intro oi hoi; simp only [List.getElem?_toArray, List.getElem?_cons_succ, List.getElem?_cons_zero] at hoi; cases hoi; refine ⟨?_, by rfl, ?_, ?_⟩; rotate_left; (focus (intro wS hSw; skip; go_simp; (first | done | with_reducible rfl))); (try simp only [Act.put, List.setIfInBounds_toArray, List.set_cons_zero, List.set_cons_succ])); (refine wpAnyH_takeG (i := 17) (by kernel_rfl) (by kernel_rfl) (by kernel_rfl) (fun _ _ _ _ _ h => h) hS ?_; intro oi hoi; simp only [List.getElem?_toArray, List.getElem?_cons_succ, List.getElem?_cons_zero] at hoi; cases hoi; refine ⟨?_, by rfl, ?_, ?_⟩; rotate_left; (focus (intro wS hSw; skip; go_simp; (first | done | with_reducible rfl))); (try simp only [Act.put, List.setIfInBounds_toArray, List.set_cons_zero, List.set_cons_succ])); (refine wpAnyH_takeG (i := 18) (by kernel_rfl) (by kernel_rfl) (by kernel_rfl) (fun _ _ _ _ _ h => h) hS ?_; intro oi hoi; simp only [List.getElem?_toArray, List.getElem?_cons_succ, List.getElem?_cons_zero] at hoi; cases hoi; refine ⟨?_, by rfl, ?_, ?_⟩; rotate_left; (focus (intro wS hSw; skip; go_simp; (first | done | with_reducible rfl))); (try simp only [Act.put, List.setIfInBounds_toArray, List.set_cons_zero, List.set_cons_succ]))
      refine wpAnyH_done (by kernel_rfl) ?_ _
      refine NoPanic.normal ?_
      go_wp2_with fail
      go_meet
      case rel => exact ⟨by rw [HEM.out]; rfl, (Kept.refl _ _).drew, below_drew (Below.refl _ _)⟩
     | false =>
      have b1 : ((x.f1.length : Int) == 0) = false := beq_eq_false_iff_ne.mpr (by intro h; rw [List.isEmpty_eq_false_iff] at he; exact he (List.length_eq_zero_iff.1 (by omega)))
      have HEM := Lib.hid he
      clear he
      refine wp_region_noPanic ?_
      refine wp_region_held_drew (S := fun W => Kept W1 W (fun _ => False) ∧ Below W1.heap.size W1 W) (by kernel_rfl) ⟨(Kept.refl _ _).drew, below_drew (Below.refl _ _)⟩ (fun hS => ?_)
      (refine wpAnyH_takeG (i := 0) (by kernel_rfl) (by kernel_rfl) (by kernel_rfl) (fun _ _ _ _ _ h => h) hS ?_; intro oi hoi; simp only [List.getElem?_toArray, List.getElem?_cons_succ, List.getElem?_cons_zero] at hoi; cases hoi; refine ⟨?_, by rfl, ?_, ?_⟩; rotate_left; (focus (intro wS hSw; skip; go_simp; (first | done | with_reducible rfl))); (try simp only [Act.put, List.setIfInBounds_toArray, List.set_cons_zero, List.set_cons_succ])); (refine wpAnyH_takeG (i := 1) (by kernel_rfl) (by kernel_rfl) (by kernel_rfl) (fun _ _ _ _ _ h => h) hS ?_; intro oi hoi; simp only [List.getElem?_toArray, List.getElem?_cons_succ, List.getElem?_cons_zero] at hoi; cases hoi; refine ⟨?_, by rfl, ?_, ?_⟩; rotate_left; (focus (intro wS hSw; skip; go_simp; (first | done | with_reducible rfl))); (try simp only [Act.put, List.setIfInBounds_toArray, List.set_cons_zero, List.set_cons_succ])); (refine wpAnyH_takeG (i := 2) (by kernel_rfl) (by kernel_rfl) (by kernel_rfl) (fun _ _ _ _ _ h => h) hS ?_; intro oi hoi; simp only [List.getElem?_toArray, List.getElem?_cons_succ, List.getElem?_cons_zero] at hoi; cases hoi; refine ⟨?_, by rfl, ?_, ?_⟩; rotate_left; (focus (intro wS hSw; skip; go_simp; (first | done | with_reducible rfl))); (try simp only [Act.put, List.setIfInBounds_toArray, List.set_cons_zero, List.set_cons_succ])); (refine wpAnyH_offG (i := 3) (by kernel_rfl) (by kernel_rfl) (by kernel_rfl) (fun _ _ _ _ _ h => h) hS ?_; intro oi hoi; simp only [List.getElem?_toArray, List.getElem?_cons_succ, List.getElem?_cons_zero] at hoi; cases hoi; refine ⟨by rfl, ?_⟩; (try simp only [Act.put, List.setIfInBounds_toArray, List.set_cons_zero, List.set_cons_succ])); (refine wpAnyH_offG (i := 4) (by kernel_rfl) (by kernel_rfl) (by kernel_rfl) (fun _ _ _ _ _ h => h) hS ?_; intro oi hoi; simp only [List.getElem?_toArray, List.getElem?_cons_succ, List.getElem?_cons_zero] at hoi; cases hoi; refine ⟨by rfl, ?_⟩; (try simp only [Act.put, List.setIfInBounds_toArray, List.set_cons_zero, List.set_cons_succ])); (refine wpAnyH_offG (i := 5) (by kernel_rfl) (by kernel_rfl) (by kernel_rfl) (fun _ _ _ _ _ h => h) hS ?_; intro oi hoi; simp only [List.getElem?_toArray, List.getElem?_cons_succ, List.getElem?_cons_zero] at hoi; cases hoi; refine ⟨by rfl, ?_⟩; (try simp only [Act.put, List.setIfInBounds_toArray, List.set_cons_zero, List.set_cons_succ])); (refine wpAnyH_offG (i := 6) (by kernel_rfl) (by kernel_rfl) (by kernel_rfl) (fun _ _ _ _ _ h => h) hS ?_; intro oi hoi; simp only [List.getElem?_toArray, List.getElem?_cons_succ, List.getElem?_cons_zero] at hoi; cases hoi; refine ⟨by rfl, ?_⟩; (try simp only [Act.put, List.setIfInBounds_toArray, List.set_cons_zero, List.set_cons_succ])); (refine wpAnyH_offG (i := 7) (by kernel_rfl) (by kernel_rfl) (by kernel_rfl) (fun _ _ _ _ _ h => h) hS ?_; intro oi hoi; simp only [List.getElem?_toArray, List.getElem?_cons_succ, List.getElem?_cons_zero] at hoi; cases hoi; refine ⟨by rfl, ?_⟩; (try simp only [Act.put, List.setIfInBounds_toArray, List.set_cons_zero, List.set_cons_succ])); (refine wpAnyH_offG (i := 8) (by kernel_rfl) (by kernel_rfl) (by kernel_rfl) (fun _ _ _ _ _ h => h) hS ?_; intro oi hoi; simp only [List.getElem?_toArray, List.getElem?_cons_succ, List.getElem?_cons_zero] at hoi; cases hoi; refine ⟨by rfl, ?_⟩; (try simp only [Act.put, List.setIfInBounds_toArray, List.set_cons_zero, List.set_cons_succ])); (refine wpAnyH_offG (i := 9) (by kernel_rfl) (by kernel_rfl) (by kernel_rfl) (fun _ _ _ _ _ h => h) hS ?_; intro oi hoi; simp only [List.getElem?_toArray, List.getElem?_cons_succ, List.getElem?_cons_zero] at hoi; cases hoi; refine ⟨by rfl, ?_⟩; (try simp only [Act.put, List.setIfInBounds_toArray, List.set_cons_zero, List.set_cons_succ])); (refine wpAnyH_offG (i := 10) (by kernel_rfl) (by kernel_rfl) (by kernel_rfl) (fun _ _ _ _ _ h => h) hS ?_; intro oi hoi; simp only [List.getElem?_toArray, List.getElem?_cons_succ, List.getElem?_cons_zero] at hoi; cases hoi; refine ⟨by rfl, ?_⟩; (try simp only [Act.put, List.setIfInBounds_toArray, List.set_cons_zero, List.set_cons_succ])); (refine wpAnyH_offG (i := 11) (by kernel_rfl) (by kernel_rfl) (by kernel_rfl) (fun _ _ _ _ _ h => h) hS ?_; intro oi hoi; simp only [List.getElem?_toArray, List.getElem?_cons_succ, List.getElem?_cons_zero] at hoi; cases hoi; refine ⟨by rfl, ?_⟩; (try simp only [Act.put, List.setIfInBounds_toArray, List.set_cons_zero, List.set_cons_succ])); (refine wpAnyH_takeG (i := 12) (by kernel_rfl) (by kernel_rfl) (by kernel_rfl) (fun _ _ _ _ _ h => h) hS ?_; intro oi hoi; simp only [List.getElem?_toArray, List.getElem?_cons_succ, List.getElem?_cons_zero] at hoi; cases hoi; refine ⟨?_, by rfl, ?_, ?_⟩; rotate_left; (focus (intro wS hSw; skip; go_simp; (first | done | with_reducible rfl))); (try simp only [Act.put, List.setIfInBounds_toArray, List.set_cons_zero, List.set_cons_succ])); (refine wpAnyH_takeG (i := 13) (by kernel_rfl) (by kernel_rfl) (by kernel_rfl) (fun _ _ _ _ _ h => h) hS ?_; intro oi hoi; simp only [List.getElem?_toArray, List.getElem?_cons_succ, List.getElem?_cons_zero] at hoi; cases hoi; refine ⟨?_, by rfl, ?_, ?_⟩; rotate_left; (focus (intro wS hSw; skip; go_simp; (first | done | with_reducible rfl))); (try simp only [Act.put, List.setIfInBounds_toArray, List.set_cons_zero, List.set_cons_succ])); (refine wpAnyH_takeG (i := 14) (by kernel_rfl) (by kernel_rfl) (by kernel_rfl) (fun _ _ _ _ _ h => h) hS ?_; intro oi hoi; simp only [List.getElem?_toArray, List.getElem?_cons_succ, List.getElem?_cons_zero] at hoi; cases hoi; refine ⟨?_, by rfl, ?_, ?_⟩; rotate_left; (focus (intro wS hSw; skip; go_simp; (first | done | with_reducible rfl))); (try simp only [Act.put, List.setIfInBounds_toArray, List.set_cons_zero, List.set_cons_succ]))
      (refine wpAnyH_takeG (i := 15) (by kernel_rfl) (by kernel_rfl) (by kernel_rfl) (fun _ _ _ _ _ h => h) hS ?_; intro oi hoi; simp only [List.getElem?_toArray, List.getElem?_cons_succ, List.getElem?_cons_zero] at hoi; cases hoi; refine ⟨?_, by rfl, ?_, ?_⟩; rotate_left; (focus (intro wS hSw; have g1 := (blk_cell (blk_kept HG1.out hSw.1 id) 1).trans rfl; go_simp; (first | done | with_reducible rfl))); (try simp only [Act.put, List.setIfInBounds_toArray, List.set_cons_zero, List.set_cons_succ]))
      (refine wpAnyH_takeG (i := 16) (by kernel_rfl) (by kernel_rfl) (by kernel_rfl) (fun _ _ _ _ _ h => h) hS ?_; intro oi hoi; simp only [List.getElem?_toArray, List.getElem?_cons_succ, List.getElem?_cons_zero] at hoi; cases hoi; refine ⟨?_, by rfl, ?_, ?_⟩; rotate_left; (focus (intro wS hSw; skip; go_simp; (first | done | with_reducible rfl))); (try simp only [Act.put, List.setIfInBounds_toArray, List.set_cons_zero, List.set_cons_succ])); (refine wpAnyH_takeG (i := 17) (by kernel_rfl) (by kernel_rfl) (by kernel_rfl) (fun _ _ _ _ _ h => h) hS ?_; intro oi hoi; simp only [List.getElem?_toArray, List.getElem?_cons_succ, List.getElem?_cons_zero] at hoi; cases hoi; refine ⟨?_, by rfl, ?_, ?_⟩; rotate_left; (focus (intro wS hSw; skip; go_simp; (first | done | with_reducible rfl))); (try simp only [Act.put, List.setIfInBounds_toArray, List.set_cons_zero, List.set_cons_succ])); (refine wpAnyH_takeG (i := 18) (by kernel_rfl) (by kernel_rfl) (by kernel_rfl) (fun _ _ _ _ _ h => h) hS ?_; intro oi hoi; simp only [List.getElem?_toArray, List.getElem?_cons_succ, List.getElem?_cons_zero] at hoi; cases hoi; refine ⟨?_, by rfl, ?_, ?_⟩; rotate_left; (focus (intro wS hSw; skip; go_simp; (first | done | with_reducible rfl))); (try simp only [Act.put, List.setIfInBounds_toArray, List.set_cons_zero, List.set_cons_succ]))
      refine wpAnyH_done (by kernel_rfl) ?_ _
      refine NoPanic.normal ?_
      go_wp2_with fail
      go_meet
      case rel => exact ⟨by rw [HEM.out]; rfl, (Kept.refl _ _).drew, below_drew (Below.refl _ _)⟩
    | succ j =>
     obtain ⟨ad', A3, c3, hA, f0, _, _, _⟩ := at_T78 HCr.out (j : Int) (by omega) (by omega)
     cases hA
     rw [show rd_T78 l (j : Int) = l.getD j z78 by simp [rd_T78]] at f0
     simp only [Int.toNat_natCast] at f0
     have HPK2 := Lib.hid (show decide ((l.getD j z78).f0 < x.f0) = pk from HPK.out)
     obtain ⟨y, hy⟩ : ∃ y, (l.getD j z78).f0 = y := ⟨_, rfl⟩
     rw [hy] at f0 HPK2
     have HF := Lib.hid (fun W (hk : Kept W1 W (fun _ => False)) => (cell_kept f0 (HK1.out.then_ hk (fun _ h => h.elim)) id))
     have hw1 : IntKind.i64.wrap (((j + 1 : Nat) : Int) - 1) = (j : Int) := by rw [IntKind.wrap_i64]; have := HL.out; omega
     have hw2 : ((j + 1 : Nat) : Int) - 1 = (j : Int) := by omega
     have hw3 : IntKind.i64.wrap (j : Int) = (j : Int) := by rw [IntKind.wrap_i64]; have := HL.out; omega
     have hjl : j < l.length := by omega
     have hj0 : 0 ≤ (j : Int) := by omega
     have hp : decide (0 < ((j + 1 : Nat) : Int)) = true := decide_eq_true (by omega)
     clear f0 hy HPK q1 e0 e1
     cases pk with
     | false =>
      have d1 : decide (x.f0 ≤ y) = true := decide_eq_true (by have := HPK2.out; simp at this; omega)
      refine wp_region_noPanic ?_
      refine wp_region_held_drew (S := fun W => Kept W1 W (fun _ => False) ∧ Below W1.heap.size W1 W) (by kernel_rfl) ⟨(Kept.refl _ _).drew, below_drew (Below.refl _ _)⟩ (fun hS => ?_)
      (refine wpAnyH_takeG (i := 0) (by kernel_rfl) (by kernel_rfl) (by kernel_rfl) (fun _ _ _ _ _ h => h) hS ?_; intro oi hoi; simp only [List.getElem?_toArray, List.getElem?_cons_succ, List.getElem?_cons_zero] at hoi; cases hoi; refine ⟨?_, by rfl, ?_, ?_⟩; rotate_left; (focus (intro wS hSw; skip; go_simp; (first | done | with_reducible rfl))); (try simp only [Act.put, List.setIfInBounds_toArray, List.set_cons_zero, List.set_cons_succ])); (refine wpAnyH_takeG (i := 1) (by kernel_rfl) (by kernel_rfl) (by kernel_rfl) (fun _ _ _ _ _ h => h) hS ?_; intro oi hoi; simp only [List.getElem?_toArray, List.getElem?_cons_succ, List.getElem?_cons_zero] at hoi; cases hoi; refine ⟨?_, by rfl, ?_, ?_⟩; rotate_left; (focus (intro wS hSw; skip; go_simp; (first | done | with_reducible rfl))); (try simp only [Act.put, List.setIfInBounds_toArray, List.set_cons_zero, List.set_cons_succ])); (refine wpAnyH_takeG (i := 2) (by kernel_rfl) (by kernel_rfl) (by kernel_rfl) (fun _ _ _ _ _ h => h) hS ?_; intro oi hoi; simp only [List.getElem?_toArray, List.getElem?_cons_succ, List.getElem?_cons_zero] at hoi; cases hoi; refine ⟨?_, by rfl, ?_, ?_⟩; rotate_left; (focus (intro wS hSw; skip; go_simp; (first | done | with_reducible rfl))); (try simp only [Act.put, List.setIfInBounds_toArray, List.set_cons_zero, List.set_cons_succ])); (refine wpAnyH_takeG (i := 3) (by kernel_rfl) (by kernel_rfl) (by kernel_rfl) (fun _ _ _ _ _ h => h) hS ?_; intro oi hoi; simp only [List.getElem?_toArray, List.getElem?_cons_succ, List.getElem?_cons_zero] at hoi; cases hoi; refine ⟨?_, by rfl, ?_, ?_⟩; rotate_left; (focus (intro wS hSw; skip; go_simp; (first | done | with_reducible rfl))); (try simp only [Act.put, List.setIfInBounds_toArray, List.set_cons_zero, List.set_cons_succ])); (refine wpAnyH_takeG (i := 4) (by kernel_rfl) (by kernel_rfl) (by kernel_rfl) (fun _ _ _ _ _ h => h) hS ?_; intro oi hoi; simp only [List.getElem?_toArray, List.getElem?_cons_succ, List.getElem?_cons_zero] at hoi; cases hoi; refine ⟨?_, by rfl, ?_, ?_⟩; rotate_left; (focus (intro wS hSw; skip; go_simp; (first | done | with_reducible rfl))); (try simp only [Act.put, List.setIfInBounds_toArray, List.set_cons_zero, List.set_cons_succ])); (refine wpAnyH_takeG (i := 5) (by kernel_rfl) (by kernel_rfl) (by kernel_rfl) (fun _ _ _ _ _ h => h) hS ?_; intro oi hoi; simp only [List.getElem?_toArray, List.getElem?_cons_succ, List.getElem?_cons_zero] at hoi; cases hoi; refine ⟨?_, by rfl, ?_, ?_⟩; rotate_left; (focus (intro wS hSw; skip; go_simp; (first | done | with_reducible rfl))); (try simp only [Act.put, List.setIfInBounds_toArray, List.set_cons_zero, List.set_cons_succ])); (refine wpAnyH_takeG (i := 6) (by kernel_rfl) (by kernel_rfl) (by kernel_rfl) (fun _ _ _ _ _ h => h) hS ?_; intro oi hoi; simp only [List.getElem?_toArray, List.getElem?_cons_succ, List.getElem?_cons_zero] at hoi; cases hoi; refine ⟨?_, by rfl, ?_, ?_⟩; rotate_left; (focus (intro wS hSw; skip; go_simp; (first | done | with_reducible rfl))); (try simp only [Act.put, List.setIfInBounds_toArray, List.set_cons_zero, List.set_cons_succ])); (refine wpAnyH_takeG (i := 7) (by kernel_rfl) (by kernel_rfl) (by kernel_rfl) (fun _ _ _ _ _ h => h) hS ?_; intro oi hoi; simp only [List.getElem?_toArray, List.getElem?_cons_succ, List.getElem?_cons_zero] at hoi; cases hoi; refine ⟨?_, by rfl, ?_, ?_⟩; rotate_left; (focus (intro wS hSw; skip; go_simp; (first | done | with_reducible rfl))); (try simp only [Act.put, List.setIfInBounds_toArray, List.set_cons_zero, List.set_cons_succ]))
      (refine wpAnyH_takeG (i := 8) (by kernel_rfl) (by kernel_rfl) (by kernel_rfl) (fun _ _ _ _ _ h => h) hS ?_; intro oi hoi; simp only [List.getElem?_toArray, List.getElem?_cons_succ, List.getElem?_cons_zero] at hoi; cases hoi; refine ⟨?_, by rfl, ?_, ?_⟩; rotate_left; (focus (intro wS hSw; have g0 := HF.out _ hSw.1; go_simp; (first | done | with_reducible rfl))); (try simp only [Act.put, List.setIfInBounds_toArray, List.set_cons_zero, List.set_cons_succ]))
      (refine wpAnyH_takeG (i := 9) (by kernel_rfl) (by kernel_rfl) (by kernel_rfl) (fun _ _ _ _ _ h => h) hS ?_; intro oi hoi; simp only [List.getElem?_toArray, List.getElem?_cons_succ, List.getElem?_cons_zero] at hoi; cases hoi; refine ⟨?_, by rfl, ?_, ?_⟩; rotate_left; (focus (intro wS hSw; skip; go_simp; (first | done | with_reducible rfl))); (try simp only [Act.put, List.setIfInBounds_toArray, List.set_cons_zero, List.set_cons_succ]))
      (refine wpAnyH_takeG (i := 10) (by kernel_rfl) (by kernel_rfl) (by kernel_rfl) (fun _ _ _ _ _ h => h) hS ?_; intro oi hoi; simp only [List.getElem?_toArray, List.getElem?_cons_succ, List.getElem?_cons_zero] at hoi; cases hoi; refine ⟨?_, by rfl, ?_, ?_⟩; rotate_left; (focus (intro wS hSw; have g0 := (blk_cell (blk_kept HG1.out hSw.1 id) 0).trans rfl; go_simp; (first | done | with_reducible rfl))); (try simp only [Act.put, List.setIfInBounds_toArray, List.set_cons_zero, List.set_cons_succ]))
      (refine wpAnyH_takeG (i := 11) (by kernel_rfl) (by kernel_rfl) (by kernel_rfl) (fun _ _ _ _ _ h => h) hS ?_; intro oi hoi; simp only [List.getElem?_toArray, List.getElem?_cons_succ, List.getElem?_cons_zero] at hoi; cases hoi; refine ⟨?_, by rfl, ?_, ?_⟩; rotate_left; (focus (intro wS hSw; skip; go_simp; (first | done | with_reducible rfl))); (try simp only [Act.put, List.setIfInBounds_toArray, List.set_cons_zero, List.set_cons_succ])); (refine wpAnyH_takeG (i := 12) (by kernel_rfl) (by kernel_rfl) (by kernel_rfl) (fun _ _ _ _ _ h => h) hS ?_; intro oi hoi; simp only [List.getElem?_toArray, List.getElem?_cons_succ, List.getElem?_cons_zero] at hoi; cases hoi; refine ⟨?_, by rfl, ?_, ?_⟩; rotate_left; (focus (intro wS hSw; skip; go_simp; (first | done | with_reducible rfl))); (try simp only [Act.put, List.setIfInBounds_toArray, List.set_cons_zero, List.set_cons_succ])); (refine wpAnyH_takeG (i := 13) (by kernel_rfl) (by kernel_rfl) (by kernel_rfl) (fun _ _ _ _ _ h => h) hS ?_; intro oi hoi; simp only [List.getElem?_toArray, List.getElem?_cons_succ, List.getElem?_cons_zero] at hoi; cases hoi; refine ⟨?_, by rfl, ?_, ?_⟩; rotate_left; (focus (intro wS hSw; skip; go_simp; (first | done | with_reducible rfl))); (try simp only [Act.put, List.setIfInBounds_toArray, List.set_cons_zero, List.set_cons_succ])); (refine wpAnyH_offG (i := 14) (by kernel_rfl) (by kernel_rfl) (by kernel_rfl) (fun _ _ _ _ _ h => h) hS ?_; intro oi hoi; simp only [List.getElem?_toArray, List.getElem?_cons_succ, List.getElem?_cons_zero] at hoi; cases hoi; refine ⟨by rfl, ?_⟩; (try simp only [Act.put, List.setIfInBounds_toArray, List.set_cons_zero, List.set_cons_succ])); (refine wpAnyH_offG (i := 15) (by kernel_rfl) (by kernel_rfl) (by kernel_rfl) (fun _ _ _ _ _ h => h) hS ?_; intro oi hoi; simp only [List.getElem?_toArray, List.getElem?_cons_succ, List.getElem?_cons_zero] at hoi; cases hoi; refine ⟨by rfl, ?_⟩; (try simp only [Act.put, List.setIfInBounds_toArray, List.set_cons_zero, List.set_cons_succ])); (refine wpAnyH_offG (i := 16) (by kernel_rfl) (by kernel_rfl) (by kernel_rfl) (fun _ _ _ _ _ h => h) hS ?_; intro oi hoi; simp only [List.getElem?_toArray, List.getElem?_cons_succ, List.getElem?_cons_zero] at hoi; cases hoi; refine ⟨by rfl, ?_⟩; (try simp only [Act.put, List.setIfInBounds_toArray, List.set_cons_zero, List.set_cons_succ])); (refine wpAnyH_offG (i := 17) (by kernel_rfl) (by kernel_rfl) (by kernel_rfl) (fun _ _ _ _ _ h => h) hS ?_; intro oi hoi; simp only [List.getElem?_toArray, List.getElem?_cons_succ, List.getElem?_cons_zero] at hoi; cases hoi; refine ⟨by rfl, ?_⟩; (try simp only [Act.put, List.setIfInBounds_toArray, List.set_cons_zero, List.set_cons_succ])); (refine wpAnyH_takeG (i := 18) (by kernel_rfl) (by kernel_rfl) (by kernel_rfl) (fun _ _ _ _ _ h => h) hS ?_; intro oi hoi; simp only [List.getElem?_toArray, List.getElem?_cons_succ, List.getElem?_cons_zero] at hoi; cases hoi; refine ⟨?_, by rfl, ?_, ?_⟩; rotate_left; (focus (intro wS hSw; skip; go_simp; (first | done | with_reducible rfl))); (try simp only [Act.put, List.setIfInBounds_toArray, List.set_cons_zero, List.set_cons_succ]))
      refine wpAnyH_done (by kernel_rfl) ?_ _
      refine NoPanic.normal ?_
      go_wp2_with fail
      go_meet
      case rel => exact ⟨by rfl, (Kept.refl _ _).drew, below_drew (Below.refl _ _)⟩
     | true =>
      have d1 : decide (x.f0 ≤ y) = false := decide_eq_false (by have := HPK2.out; simp at this; omega)
      cases he : x.f1.isEmpty with
      | true =>
       have b1 : ((x.f1.length : Int) == 0) = true := by rw [List.isEmpty_iff.1 he]; rfl
       have HEM := Lib.hid he
       clear he
       refine wp_region_noPanic ?_
       refine wp_region_held_drew (S := fun W => Kept W1 W (fun _ => False) ∧ Below W1.heap.size W1 W) (by kernel_rfl) ⟨(Kept.refl _ _).drew, below_drew (Below.refl _ _)⟩ (fun hS => ?_)
       (refine wpAnyH_takeG (i := 0) (by kernel_rfl) (by kernel_rfl) (by kernel_rfl) (fun _ _ _ _ _ h => h) hS ?_; intro oi hoi; simp only [List.getElem?_toArray, List.getElem?_cons_succ, List.getElem?_cons_zero] at hoi; cases hoi; refine ⟨?_, by rfl, ?_, ?_⟩; rotate_left; (focus (intro wS hSw; skip; go_simp; (first | done | with_reducible rfl))); (try simp only [Act.put, List.setIfInBounds_toArray, List.set_cons_zero, List.set_cons_succ])); (refine wpAnyH_takeG (i := 1) (by kernel_rfl) (by kernel_rfl) (by kernel_rfl) (fun _ _ _ _ _ h => h) hS ?_; intro oi hoi; simp only [List.getElem?_toArray, List.getElem?_cons_succ, List.getElem?_cons_zero] at hoi; cases hoi; refine ⟨?_, by rfl, ?_, ?_⟩; rotate_left; (focus (intro wS hSw; skip; go_simp; (first | done | with_reducible rfl))); (try simp only [Act.put, List.setIfInBounds_toArray, List.set_cons_zero, List.set_cons_succ])); (refine wpAnyH_takeG (i := 2) (by kernel_rfl) (by kernel_rfl) (by kernel_rfl) (fun _ _ _ _ _ h => h) hS ?_; intro oi hoi; simp only [List.getElem?_toArray, List.getElem?_cons_succ, List.getElem?_cons_zero] at hoi; cases hoi; refine ⟨?_, by rfl, ?_, ?_⟩; rotate_left; (focus (intro wS hSw; skip; go_simp; (first | done | with_reducible rfl))); (try simp only [Act.put, List.setIfInBounds_toArray, List.set_cons_zero, List.set_cons_succ])); (refine wpAnyH_takeG (i := 3) (by kernel_rfl) (by kernel_rfl) (by kernel_rfl) (fun _ _ _ _ _ h => h) hS ?_; intro oi hoi; simp only [List.getElem?_toArray, List.getElem?_cons_succ, List.getElem?_cons_zero] at hoi; cases hoi; refine ⟨?_, by rfl, ?_, ?_⟩; rotate_left; (focus (intro wS hSw; skip; go_simp; (first | done | with_reducible rfl))); (try simp only [Act.put, List.setIfInBounds_toArray, List.set_cons_zero, List.set_cons_succ])); (refine wpAnyH_takeG (i := 4) (by kernel_rfl) (by kernel_rfl) (by kernel_rfl) (fun _ _ _ _ _ h => h) hS ?_; intro oi hoi; simp only [List.getElem?_toArray, List.getElem?_cons_succ, List.getElem?_cons_zero] at hoi; cases hoi; refine ⟨?_, by rfl, ?_, ?_⟩; rotate_left; (focus (intro wS hSw; skip; go_simp; (first | done | with_reducible rfl))); (try simp only [Act.put, List.setIfInBounds_toArray, List.set_cons_zero, List.set_cons_succ])); (refine wpAnyH_takeG (i := 5) (by kernel_rfl) (by kernel_rfl) (by kernel_rfl) (fun _ _ _ _ _ h => h) hS ?_; intro oi hoi; simp only [List.getElem?_toArray, List.getElem?_cons_succ, List.getElem?_cons_zero] at hoi; cases hoi; refine ⟨?_, by rfl, ?_, ?_⟩; rotate_left; (focus (intro wS hSw; skip; go_simp; (first | done | with_reducible rfl))); (try simp only [Act.put, List.setIfInBounds_toArray, List.set_cons_zero, List.set_cons_succ])); (refine wpAnyH_takeG (i := 6) (by kernel_rfl) (by kernel_rfl) (by kernel_rfl) (fun _ _ _ _ _ h => h) hS ?_; intro oi hoi; simp only [List.getElem?_toArray, List.getElem?_cons_succ, List.getElem?_cons_zero] at hoi; cases hoi; refine ⟨?_, by rfl, ?_, ?_⟩; rotate_left; (focus (intro wS hSw; skip; go_simp; (first | done | with_reducible rfl))); (try simp only [Act.put, List.setIfInBounds_toArray, List.set_cons_zero, List.set_cons_succ])); (refine wpAnyH_takeG (i := 7) (by kernel_rfl) (by kernel_rfl) (by kernel_rfl) (fun _ _ _ _ _ h => h) hS ?_; intro oi hoi; simp only [List.getElem?_toArray, List.getElem?_cons_succ, List.getElem?_cons_zero] at hoi; cases hoi; refine ⟨?_, by rfl, ?_, ?_⟩; rotate_left; (focus (intro wS hSw; skip; go_simp; (first | done | with_reducible rfl))); (try simp only [Act.put, List.setIfInBounds_toArray, List.set_cons_zero, List.set_cons_succ]))
       (refine wpAnyH_takeG (i := 8) (by kernel_rfl) (by kernel_rfl) (by kernel_rfl) (fun _ _ _ _ _ h => h) hS ?_; intro oi hoi; simp only [List.getElem?_toArray, List.getElem?_cons_succ, List.getElem?_cons_zero] at hoi; cases hoi; refine ⟨?_, by rfl, ?_, ?_⟩; rotate_left; (focus (intro wS hSw; have g0 := HF.out _ hSw.1; go_simp; (first | done | with_reducible rfl))); (try simp only [Act.put, List.setIfInBounds_toArray, List.set_cons_zero, List.set_cons_succ]))
       (refine wpAnyH_takeG (i := 9) (by kernel_rfl) (by kernel_rfl) (by kernel_rfl) (fun _ _ _ _ _ h => h) hS ?_; intro oi hoi; simp only [List.getElem?_toArray, List.getElem?_cons_succ, List.getElem?_cons_zero] at hoi; cases hoi; refine ⟨?_, by rfl, ?_, ?_⟩; rotate_left; (focus (intro wS hSw; skip; go_simp; (first | done | with_reducible rfl))); (try simp only [Act.put, List.setIfInBounds_toArray, List.set_cons_zero, List.set_cons_succ]))
       (refine wpAnyH_takeG (i := 10) (by kernel_rfl) (by kernel_rfl) (by kernel_rfl) (fun _ _ _ _ _ h => h) hS ?_; intro oi hoi; simp only [List.getElem?_toArray, List.getElem?_cons_succ, List.getElem?_cons_zero] at hoi; cases hoi; refine ⟨?_, by rfl, ?_, ?_⟩; rotate_left; (focus (intro wS hSw; have g0 := (blk_cell (blk_kept HG1.out hSw.1 id) 0).trans rfl; go_simp; (first | done | with_reducible rfl))); (try simp only [Act.put, List.setIfInBounds_toArray, List.set_cons_zero, List.set_cons_succ]))
       (refine wpAnyH_takeG (i := 11) (by kernel_rfl) (by kernel_rfl) (by kernel_rfl) (fun _ _ _ _ _ h => h) hS ?_; intro oi hoi; simp only [List.getElem?_toArray, List.getElem?_cons_succ, List.getElem?_cons_zero] at hoi; cases hoi; refine ⟨?_, by rfl, ?_, ?_⟩; rotate_left; (focus (intro wS hSw; skip; go_simp; (first | done | with_reducible rfl))); (try simp only [Act.put, List.setIfInBounds_toArray, List.set_cons_zero, List.set_cons_succ])); (refine wpAnyH_takeG (i := 12) (by kernel_rfl) (by kernel_rfl) (by kernel_rfl) (fun _ _ _ _ _ h => h) hS ?_; intro oi hoi; simp only [List.getElem?_toArray, List.getElem?_cons_succ, List.getElem?_cons_zero] at hoi; cases hoi; refine ⟨?_, by rfl, ?_, ?_⟩; rotate_left; (focus (intro wS hSw; skip; go_simp; (first | done | with_reducible rfl))); (try simp only [Act.put, List.setIfInBounds_toArray, List.set_cons_zero, List.set_cons_succ])); (refine wpAnyH_takeG (i := 13) (by kernel_rfl) (by kernel_rfl) (by kernel_rfl) (fun _ _ _ _ _ h => h) hS ?_; intro oi hoi; simp only [List.getElem?_toArray, List.getElem?_cons_succ, List.getElem?_cons_zero] at hoi; cases hoi; refine ⟨?_, by rfl, ?_, ?_⟩; rotate_left; (focus (intro wS hSw; skip; go_simp; (first | done | with_reducible rfl))); (try simp only [Act.put, List.setIfInBounds_toArray, List.set_cons_zero, List.set_cons_succ])); (refine wpAnyH_takeG (i := 14) (by kernel_rfl) (by kernel_rfl) (by kernel_rfl) (fun _ _ _ _ _ h => h) hS ?_; intro oi hoi; simp only [List.getElem?_toArray, List.getElem?_cons_succ, List.getElem?_cons_zero] at hoi; cases hoi; refine ⟨?_, by rfl, ?_, ?_⟩; rotate_left; (focus (intro wS hSw; skip; go_simp; (first | done | with_reducible rfl))); (try simp only [Act.put, List.setIfInBounds_toArray, List.set_cons_zero, List.set_cons_succ]))
       (refine wpAnyH_takeG (i := 15) (by kernel_rfl) (by kernel_rfl) (by kernel_rfl) (fun _ _ _ _ _ h => h) hS ?_; intro oi hoi; simp only [List.getElem?_toArray, List.getElem?_cons_succ, List.getElem?_cons_zero] at hoi; cases hoi; refine ⟨?_, by rfl, ?_, ?_⟩; rotate_left; (focus (intro wS hSw; have g1 := (blk_cell (blk_kept HG1.out hSw.1 id) 1).trans rfl; go_simp; (first | done | with_reducible rfl))); (try simp only [Act.put, List.setIfInBounds_toArray, List.set_cons_zero, List.set_cons_succ]))
       (refine wpAnyH_takeG (i := 16) (by kernel_rfl) (by kernel_rfl) (by kernel_rfl) (fun _ _ _ _ _ h => h) hS ?_; intro oi hoi; simp only [List.getElem?_toArray, List.getElem?_cons_succ, List.getElem?_cons_zero] at hoi; cases hoi; refine ⟨?_, by rfl, ?_, ?_⟩; rotate_left; (focus (intro wS hSw; skip; go_simp; (first | done | with_reducible rfl))); (try simp only [Act.put, List.setIfInBounds_toArray, List.set_cons_zero, List.set_cons_succ])); (refine wpAnyH_takeG (i := 17) (by kernel_rfl) (by kernel_rfl) (by kernel_rfl) (fun _ _ _ _ _ h => h) hS ?_; intro oi hoi; simp only [List.getElem?_toArray, List.getElem?_cons_succ, List.getElem?_cons_zero] at hoi; cases hoi; refine ⟨?_, by rfl, ?_, ?_⟩; rotate_left; (focus (intro wS hSw; skip; go_simp; (first | done | with_reducible rfl))); (try simp only [Act.put, List.setIfInBounds_toArray, List.set_cons_zero, List.set_cons_succ])); (refine wpAnyH_takeG (i := 18) (by kernel_rfl) (by kernel_rfl) (by kernel_rfl) (fun _ _ _ _ _ h => h) hS ?_; intro oi hoi; simp only [List.getElem?_toArray, List.getElem?_cons_succ, List.getElem?_cons_zero] at hoi; cases hoi; refine ⟨?_, by rfl, ?_, ?_⟩; rotate_left; (focus (intro wS hSw; skip; go_simp; (first | done | with_reducible rfl))); (try simp only [Act.put, List.setIfInBounds_toArray, List.set_cons_zero, List.set_cons_succ]))
       refine wpAnyH_done (by kernel_rfl) ?_ _
       refine NoPanic.normal ?_
       go_wp2_with fail
       go_meet
       case rel => exact ⟨by rw [HEM.out]; rfl, (Kept.refl _ _).drew, below_drew (Below.refl _ _)⟩
      | false =>
       have b1 : ((x.f1.length : Int) == 0) = false := beq_eq_false_iff_ne.mpr (by intro h; rw [List.isEmpty_eq_false_iff] at he; exact he (List.length_eq_zero_iff.1 (by omega)))
       have HEM := Lib.hid he
       clear he
       refine wp_region_noPanic ?_
       refine wp_region_held_drew (S := fun W => Kept W1 W (fun _ => False) ∧ Below W1.heap.size W1 W) (by kernel_rfl) ⟨(Kept.refl _ _).drew, below_drew (Below.refl _ _)⟩ (fun hS => ?_)
       (refine wpAnyH_takeG (i := 0) (by kernel_rfl) (by kernel_rfl) (by kernel_rfl) (fun _ _ _ _ _ h => h) hS ?_; intro oi hoi; simp only [List.getElem?_toArray, List.getElem?_cons_succ, List.getElem?_cons_zero] at hoi; cases hoi; refine ⟨?_, by rfl, ?_, ?_⟩; rotate_left; (focus (intro wS hSw; skip; go_simp; (first | done | with_reducible rfl))); (try simp only [Act.put, List.setIfInBounds_toArray, List.set_cons_zero, List.set_cons_succ])); (refine wpAnyH_takeG (i := 1) (by kernel_rfl) (by kernel_rfl) (by kernel_rfl) (fun _ _ _ _ _ h => h) hS ?_; intro oi hoi; simp only [List.getElem?_toArray, List.getElem?_cons_succ, List.getElem?_cons_zero] at hoi; cases hoi; refine ⟨?_, by rfl, ?_, ?_⟩; rotate_left; (focus (intro wS hSw; skip; go_simp; (first | done | with_reducible rfl))); (try simp only [Act.put, List.setIfInBounds_toArray, List.set_cons_zero, List.set_cons_succ])); (refine wpAnyH_takeG (i := 2) (by kernel_rfl) (by kernel_rfl) (by kernel_rfl) (fun _ _ _ _ _ h => h) hS ?_; intro oi hoi; simp only [List.getElem?_toArray, List.getElem?_cons_succ, List.getElem?_cons_zero] at hoi; cases hoi; refine ⟨?_, by rfl, ?_, ?_⟩; rotate_left; (focus (intro wS hSw; skip; go_simp; (first | done | with_reducible rfl))); (try simp only [Act.put, List.setIfInBounds_toArray, List.set_cons_zero, List.set_cons_succ])); (refine wpAnyH_takeG (i := 3) (by kernel_rfl) (by kernel_rfl) (by kernel_rfl) (fun _ _ _ _ _ h => h) hS ?_; intro oi hoi; simp only [List.getElem?_toArray, List.getElem?_cons_succ, List.getElem?_cons_zero] at hoi; cases hoi; refine ⟨?_, by rfl, ?_, ?_⟩; rotate_left; (focus (intro wS hSw; skip; go_simp; (first | done | with_reducible rfl))); (try simp only [Act.put, List.setIfInBounds_toArray, List.set_cons_zero, List.set_cons_succ])); (refine wpAnyH_takeG (i := 4) (by kernel_rfl) (by kernel_rfl) (by kernel_rfl) (fun _ _ _ _ _ h => h) hS ?_; intro oi hoi; simp only [List.getElem?_toArray, List.getElem?_cons_succ, List.getElem?_cons_zero] at hoi; cases hoi; refine ⟨?_, by rfl, ?_, ?_⟩; rotate_left; (focus (intro wS hSw; skip; go_simp; (first | done | with_reducible rfl))); (try simp only [Act.put, List.setIfInBounds_toArray, List.set_cons_zero, List.set_cons_succ])); (refine wpAnyH_takeG (i := 5) (by kernel_rfl) (by kernel_rfl) (by kernel_rfl) (fun _ _ _ _ _ h => h) hS ?_; intro oi hoi; simp only [List.getElem?_toArray, List.getElem?_cons_succ, List.getElem?_cons_zero] at hoi; cases hoi; refine ⟨?_, by rfl, ?_, ?_⟩; rotate_left; (focus (intro wS hSw; skip; go_simp; (first | done | with_reducible rfl))); (try simp only [Act.put, List.setIfInBounds_toArray, List.set_cons_zero, List.set_cons_succ])); (refine wpAnyH_takeG (i := 6) (by kernel_rfl) (by kernel_rfl) (by kernel_rfl) (fun _ _ _ _ _ h => h) hS ?_; intro oi hoi; simp only [List.getElem?_toArray, List.getElem?_cons_succ, List.getElem?_cons_zero] at hoi; cases hoi; refine ⟨?_, by rfl, ?_, ?_⟩; rotate_left; (focus (intro wS hSw; skip; go_simp; (first | done | with_reducible rfl))); (try simp only [Act.put, List.setIfInBounds_toArray, List.set_cons_zero, List.set_cons_succ])); (refine wpAnyH_takeG (i := 7) (by kernel_rfl) (by kernel_rfl) (by kernel_rfl) (fun _ _ _ _ _ h => h) hS ?_; intro oi hoi; simp only [List.getElem?_toArray, List.getElem?_cons_succ, List.getElem?_cons_zero] at hoi; cases hoi; refine ⟨?_, by rfl, ?_, ?_⟩; rotate_left; (focus (intro wS hSw; skip; go_simp; (first | done | with_reducible rfl))); (try simp only [Act.put, List.setIfInBounds_toArray, List.set_cons_zero, List.set_cons_succ]))
       (refine wpAnyH_takeG (i := 8) (by kernel_rfl) (by kernel_rfl) (by kernel_rfl) (fun _ _ _ _ _ h => h) hS ?_; intro oi hoi; simp only [List.getElem?_toArray, List.getElem?_cons_succ, List.getElem?_cons_zero] at hoi; cases hoi; refine ⟨?_, by rfl, ?_, ?_⟩; rotate_left; (focus (intro wS hSw; have g0 := HF.out _ hSw.1; go_simp; (first | done | with_reducible rfl))); (try simp only [Act.put, List.setIfInBounds_toArray, List.set_cons_zero, List.set_cons_succ]))
       (refine wpAnyH_takeG (i := 9) (by kernel_rfl) (by kernel_rfl) (by kernel_rfl) (fun _ _ _ _ _ h => h) hS ?_; intro oi hoi; simp only [List.getElem?_toArray, List.getElem?_cons_succ, List.getElem?_cons_zero] at hoi; cases hoi; refine ⟨?_, by rfl, ?_, ?_⟩; rotate_left; (focus (intro wS hSw; skip; go_simp; (first | done | with_reducible rfl))); (try simp only [Act.put, List.setIfInBounds_toArray, List.set_cons_zero, List.set_cons_succ]))
       (refine wpAnyH_takeG (i := 10) (by kernel_rfl) (by kernel_rfl) (by kernel_rfl) (fun _ _ _ _ _ h => h) hS ?_; intro oi hoi; simp only [List.getElem?_toArray, List.getElem?_cons_succ, List.getElem?_cons_zero] at hoi; cases hoi; refine ⟨?_, by rfl, ?_, ?_⟩; rotate_left; (focus (intro wS hSw; have g0 := (blk_cell (blk_kept HG1.out hSw.1 id) 0).trans rfl; go_simp; (first | done | with_reducible rfl))); (try simp only [Act.put, List.setIfInBounds_toArray, List.set_cons_zero, List.set_cons_succ]))
       (refine wpAnyH_takeG (i := 11) (by kernel_rfl) (by kernel_rfl) (by kernel_rfl) (fun _ _ _ _ _ h => h) hS ?_; intro oi hoi; simp only [List.getElem?_toArray, List.getElem?_cons_succ, List.getElem?_cons_zero] at hoi; cases hoi; refine ⟨?_, by rfl, ?_, ?_⟩; rotate_left; (focus (intro wS hSw; skip; go_simp; (first | done | with_reducible rfl))); (try simp only [Act.put, List.setIfInBounds_toArray, List.set_cons_zero, List.set_cons_succ])); (refine wpAnyH_takeG (i := 12) (by kernel_rfl) (by kernel_rfl) (by kernel_rfl) (fun _ _ _ _ _ h => h) hS ?_; intro oi hoi; simp only [List.getElem?_toArray, List.getElem?_cons_succ, List.getElem?_cons_zero] at hoi; cases hoi; refine ⟨?_, by rfl, ?_, ?_⟩; rotate_left; (focus (intro wS hSw; skip; go_simp; (first | done | with_reducible rfl))); (try simp only [Act.put, List.setIfInBounds_toArray, List.set_cons_zero, List.set_cons_succ])); (refine wpAnyH_takeG (i := 13) (by kernel_rfl) (by kernel_rfl) (by kernel_rfl) (fun _ _ _ _ _ h => h) hS ?_; intro oi hoi; simp only [List.getElem?_toArray, List.getElem?_cons_succ, List.getElem?_cons_zero] at hoi; cases hoi; refine ⟨?_, by rfl, ?_, ?_⟩; rotate_left; (focus (intro wS hSw; skip; go_simp; (first | done | with_reducible rfl))); (try simp only [Act.put, List.setIfInBounds_toArray, List.set_cons_zero, List.set_cons_succ])); (refine wpAnyH_takeG (i := 14) (by kernel_rfl) (by kernel_rfl) (by kernel_rfl) (fun _ _ _ _ _ h => h) hS ?_; intro oi hoi; simp only [List.getElem?_toArray, List.getElem?_cons_succ, List.getElem?_cons_zero] at hoi; cases hoi; refine ⟨?_, by rfl, ?_, ?_⟩; rotate_left; (focus (intro wS hSw; skip; go_simp; (first | done | with_reducible rfl))); (try simp only [Act.put, List.setIfInBounds_toArray, List.set_cons_zero, List.set_cons_succ]))
       (refine wpAnyH_takeG (i := 15) (by kernel_rfl) (by kernel_rfl) (by kernel_rfl) (fun _ _ _ _ _ h => h) hS ?_; intro oi hoi; simp only [List.getElem?_toArray, List.getElem?_cons_succ, List.getElem?_cons_zero] at hoi; cases hoi; refine ⟨?_, by rfl, ?_, ?_⟩; rotate_left; (focus (intro wS hSw; have g1 := (blk_cell (blk_kept HG1.out hSw.1 id) 1).trans rfl; go_simp; (first | done | with_reducible rfl))); (try simp only [Act.put, List.setIfInBounds_toArray, List.set_cons_zero, List.set_cons_succ]))
       (refine wpAnyH_takeG (i := 16) (by kernel_rfl) (by kernel_rfl) (by kernel_rfl) (fun _ _ _ _ _ h => h) hS ?_; intro oi hoi; simp only [List.getElem?_toArray, List.getElem?_cons_succ, List.getElem?_cons_zero] at hoi; cases hoi; refine ⟨?_, by rfl, ?_, ?_⟩; rotate_left; (focus (intro wS hSw; skip; go_simp; (first | done | with_reducible rfl))); (try simp only [Act.put, List.setIfInBounds_toArray, List.set_cons_zero, List.set_cons_succ])); (refine wpAnyH_takeG (i := 17) (by kernel_rfl) (by kernel_rfl) (by kernel_rfl) (fun _ _ _ _ _ h => h) hS ?_; intro oi hoi; simp only [List.getElem?_toArray, List.getElem?_cons_succ, List.getElem?_cons_zero] at hoi; cases hoi; refine ⟨?_, by rfl, ?_, ?_⟩; rotate_left; (focus (intro wS hSw; skip; go_simp; (first | done | with_reducible rfl))); (try simp only [Act.put, List.setIfInBounds_toArray, List.set_cons_zero, List.set_cons_succ])); (refine wpAnyH_takeG (i := 18) (by kernel_rfl) (by kernel_rfl) (by kernel_rfl) (fun _ _ _ _ _ h => h) hS ?_; intro oi hoi; simp only [List.getElem?_toArray, List.getElem?_cons_succ, List.getElem?_cons_zero] at hoi; cases hoi; refine ⟨?_, by rfl, ?_, ?_⟩; rotate_left; (focus (intro wS hSw; skip; go_simp; (first | done | with_reducible rfl))); (try simp only [Act.put, List.setIfInBounds_toArray, List.set_cons_zero, List.set_cons_succ]))
       refine wpAnyH_done (by kernel_rfl) ?_ _
       refine NoPanic.normal ?_
       go_wp2_with fail
       go_meet
       case rel => exact ⟨by rw [HEM.out]; rfl, (Kept.refl _ _).drew, below_drew (Below.refl _ _)⟩
   case rest =>
   obtain ⟨rfl, hK2, hB2⟩ := hcut
   have HB2 := Lib.hid (below_then HB1.out HB1.out.size hB2)
   have HS2 := Lib.hid (show SetAt wc gs S from blk_kept HS1.out hK2 id)
   have HG2 := Lib.hid (blk_kept HG1.out hK2 id)
   have HC2 := Lib.hid (C_none HC1.out hK2)
   have HKw := Lib.hid ((HK.out.then_ HK1.out (fun _ h => h.elim)).then_ hK2 (fun _ h => h.elim))
   clear hK2 hB2 HB1 HS1 HG1 HC1 HK1 HPK HCr HW1 HGX e0 e1
   cases hb : (pk && !x.f1.isEmpty) with
   | false =>
    have HE := Lib.hid (show vb = false by rw [HVS.out, ← Bool.and_assoc, hb]; rfl)
    clear hb
    (obtain ⟨es0, fs0⟩ := (HS2.out).get 0 (by decide); obtain ⟨es1, fs1⟩ := (HS2.out).get 1 (by decide); obtain ⟨es2, fs2⟩ := (HS2.out).get 2 (by decide); obtain ⟨es3, fs3⟩ := (HS2.out).get 3 (by decide); obtain ⟨es4, fs4⟩ := (HS2.out).get 4 (by decide); obtain ⟨es5, fs5⟩ := (HS2.out).get 5 (by decide); obtain ⟨es6, fs6⟩ := (HS2.out).get 6 (by decide); obtain ⟨es7, fs7⟩ := (HS2.out).get 7 (by decide))
    go_wp2_with fail
    refine bodyPost_ret (v := .tuple #[.agg #[.int .u64 (wdS (S) 0), .int .u64 (wdS (S) 1), .int .u64 (wdS (S) 2), .int .u64 (wdS (S) 3), .int .u64 (wdS (S) 4), .int .u64 (wdS (S) 5), .int .u64 (wdS (S) 6), .int .u64 (wdS (S) 7)], .bool false]) (results_ct Try.results41 _ _ gs _ _ _ _ rfl (put8 HS2.out _ _ _ _ _ _ _ _) Try.underlying92 rfl (by kernel_rfl)) rfl (ValSet.bad HVB.out HE.out _ _ _ _ _ _ _ _ (below8 HB2.out HGL.out _ _ _ _ _ _ _ _))
   | true =>
    obtain ⟨R, hR⟩ : ∃ R, (inS x.f0 && vbB (some x.f0) (l.drop (k + 1))) = R := ⟨_, rfl⟩
    have HV2 := Lib.hid (show vb = (bndB 0 (x.f1.drop 0) && R) by rw [HVS.out, ← Bool.and_assoc, hb, Bool.true_and, ← hR]; rfl)
    have HR := Lib.hid hR
    clear hb hR
    have g1 := (blk_cell HG2.out 1).trans rfl
    go_wp2_with fail
    go_loopg [39] x.f1.length (fun g v39 w' => ∃ j : Nat, v39 = .int .i64 j ∧ j ≤ x.f1.length ∧ Aside0 (g + j = x.f1.length) ∧ Aside0 (∃ p : Int, 0 ≤ p ∧ vb = (bndB p (x.f1.drop j) && R) ∧ (∀ i, j = i + 1 → p = x.f1.getD i 0) ∧ (j = 0 → p = 0)) ∧ w' = wc)
    case atStart => exact ⟨0, rfl, Nat.zero_le _, ⟨rfl⟩, ⟨0, Int.le_refl _, HV2.out, fun i hi => by omega, fun _ => rfl⟩, rfl⟩
    case round =>
     obtain ⟨j, rfl, hj, HMj, HP, rfl⟩ := hrel
     obtain ⟨p, hp0, hpv, hps, hpz⟩ := HP.out
     clear HP HV2
     by_cases hjl : j < x.f1.length
     ·
      have q2 : decide ((j : Int) < (x.f1.length : Int)) = true := decide_eq_true (by omega)
      have q5 : decide (j < x.f1.length) = true := decide_eq_true hjl
      obtain ⟨bd, hA2, hcell⟩ := C_at HC2.out j hjl
      subst hA2
      rw [bndB_step x.f1 p j hjl] at hpv
      have HPS := Lib.hid hps
      have HPV := Lib.hid hpv
      obtain ⟨b, hb⟩ : ∃ b, x.f1.getD j 0 = b := ⟨_, rfl⟩
      rw [hb] at hcell HPV
      have HBV := Lib.hid hb
      clear hb hpv hps
      by_cases a1 : b ≤ 0
      ·
       have d1 : decide (b ≤ 0) = true := decide_eq_true a1
       have HE := Lib.hid (show vb = false by rw [HPV.out, show decide (p < b) = false from decide_eq_false (by omega)]; rfl)
       clear a1 hp0 hpz
       (obtain ⟨es0, fs0⟩ := (HS2.out).get 0 (by decide); obtain ⟨es1, fs1⟩ := (HS2.out).get 1 (by decide); obtain ⟨es2, fs2⟩ := (HS2.out).get 2 (by decide); obtain ⟨es3, fs3⟩ := (HS2.out).get 3 (by decide); obtain ⟨es4, fs4⟩ := (HS2.out).get 4 (by decide); obtain ⟨es5, fs5⟩ := (HS2.out).get 5 (by decide); obtain ⟨es6, fs6⟩ := (HS2.out).get 6 (by decide); obtain ⟨es7, fs7⟩ := (HS2.out).get 7 (by decide))
       go_wp2_with fail
       refine bodyPost_ret (v := .tuple #[.agg #[.int .u64 (wdS (S) 0), .int .u64 (wdS (S) 1), .int .u64 (wdS (S) 2), .int .u64 (wdS (S) 3), .int .u64 (wdS (S) 4), .int .u64 (wdS (S) 5), .int .u64 (wdS (S) 6), .int .u64 (wdS (S) 7)], .bool false]) (results_ct Try.results41 _ _ gs _ _ _ _ rfl (put8 HS2.out _ _ _ _ _ _ _ _) Try.underlying92 rfl (by kernel_rfl)) rfl (ValSet.bad HVB.out HE.out _ _ _ _ _ _ _ _ (below8 HB2.out HGL.out _ _ _ _ _ _ _ _))
      have d1 : decide (b ≤ 0) = false := decide_eq_false a1
      by_cases a2 : 4 ≤ b
      ·
       have d2 : decide (4 ≤ b) = true := decide_eq_true a2
       have HE := Lib.hid (show vb = false by rw [HPV.out, show decide (b < 4) = false from decide_eq_false (by omega)]; simp)
       clear a1 a2 hp0 hpz
       (obtain ⟨es0, fs0⟩ := (HS2.out).get 0 (by decide); obtain ⟨es1, fs1⟩ := (HS2.out).get 1 (by decide); obtain ⟨es2, fs2⟩ := (HS2.out).get 2 (by decide); obtain ⟨es3, fs3⟩ := (HS2.out).get 3 (by decide); obtain ⟨es4, fs4⟩ := (HS2.out).get 4 (by decide); obtain ⟨es5, fs5⟩ := (HS2.out).get 5 (by decide); obtain ⟨es6, fs6⟩ := (HS2.out).get 6 (by decide); obtain ⟨es7, fs7⟩ := (HS2.out).get 7 (by decide))
       go_wp2_with fail
       refine bodyPost_ret (v := .tuple #[.agg #[.int .u64 (wdS (S) 0), .int .u64 (wdS (S) 1), .int .u64 (wdS (S) 2), .int .u64 (wdS (S) 3), .int .u64 (wdS (S) 4), .int .u64 (wdS (S) 5), .int .u64 (wdS (S) 6), .int .u64 (wdS (S) 7)], .bool false]) (results_ct Try.results41 _ _ gs _ _ _ _ rfl (put8 HS2.out _ _ _ _ _ _ _ _) Try.underlying92 rfl (by kernel_rfl)) rfl (ValSet.bad HVB.out HE.out _ _ _ _ _ _ _ _ (below8 HB2.out HGL.out _ _ _ _ _ _ _ _))
      have d2 : decide (4 ≤ b) = false := decide_eq_false a2
      have HJL := Lib.hid (show j < x.f1.length ∧ x.f1.length ≤ 9223372036854775807 from ⟨hjl, HC2.out.2.1⟩)
      by_cases hz : j = 0
      ·
       have HV3 := Lib.hid (show vb = (bndB b (x.f1.drop (j + 1)) && R) by
        have := hpz hz
        rw [HPV.out, show decide (p < b) = true from decide_eq_true (by omega), show decide (b < 4) = true from decide_eq_true (by omega)]; rfl)
       have HB0 := Lib.hid (show 0 ≤ b by omega)
       have q3 : decide ((0 : Int) < (j : Int)) = false := decide_eq_false (by omega)
       have q4 : decide (0 < j) = false := decide_eq_false (by omega)
       have HZ := Lib.hid hz
       clear a1 a2 hp0 hpz hz
       go_wp2_with fail
       go_roundg (x.f1.length - (j + 1))
       case measure => have := HMj.out; have := HJL.out; omega
       case rel => have h9 := HJL.out; exact ⟨j + 1, by rw [show wrap64 ((j : Int) + 1) = ((j + 1 : Nat) : Int) by unfold wrap64; omega], by omega, ⟨by omega⟩, ⟨b, HB0.out, HV3.out, fun i hi => by (obtain rfl : i = j := by omega); exact HBV.out.symm, fun h => by omega⟩, rfl⟩
      ·
       obtain ⟨i, hi⟩ : ∃ i, j = i + 1 := ⟨j - 1, by omega⟩
       obtain ⟨bd', hA2, hcell2⟩ := C_at HC2.out i (by omega)
       cases hA2
       rw [← HPS.out i hi] at hcell2
       have hw1 : IntKind.i64.wrap ((j : Int) - 1) = (i : Int) := by rw [IntKind.wrap_i64]; have := HC2.out.2.1; omega
       have hw2 : (j : Int) - 1 = (i : Int) := by omega
       have hw3 : IntKind.i64.wrap (i : Int) = (i : Int) := by rw [IntKind.wrap_i64]; have := HC2.out.2.1; omega
       have hw4 : wrap64 ((j : Int) - 1) = (i : Int) := by unfold wrap64; have := HC2.out.2.1; omega
       have hil : i < x.f1.length := by omega
       have hi0 : 0 ≤ (i : Int) := by omega
       have q3 : decide ((0 : Int) < (j : Int)) = true := decide_eq_true (by omega)
       have q4 : decide (0 < j) = true := decide_eq_true (by omega)
       clear hpz hz hi
       by_cases a3 : b ≤ p
       ·
        have d3 : decide (b ≤ p) = true := decide_eq_true a3
        have HE := Lib.hid (show vb = false by rw [HPV.out, show decide (p < b) = false from decide_eq_false (by omega)]; rfl)
        clear a1 a2 a3 hp0
        (obtain ⟨es0, fs0⟩ := (HS2.out).get 0 (by decide); obtain ⟨es1, fs1⟩ := (HS2.out).get 1 (by decide); obtain ⟨es2, fs2⟩ := (HS2.out).get 2 (by decide); obtain ⟨es3, fs3⟩ := (HS2.out).get 3 (by decide); obtain ⟨es4, fs4⟩ := (HS2.out).get 4 (by decide); obtain ⟨es5, fs5⟩ := (HS2.out).get 5 (by decide); obtain ⟨es6, fs6⟩ := (HS2.out).get 6 (by decide); obtain ⟨es7, fs7⟩ := (HS2.out).get 7 (by decide))
        go_wp2_with fail
        refine bodyPost_ret (v := .tuple #[.agg #[.int .u64 (wdS (S) 0), .int .u64 (wdS (S) 1), .int .u64 (wdS (S) 2), .int .u64 (wdS (S) 3), .int .u64 (wdS (S) 4), .int .u64 (wdS (S) 5), .int .u64 (wdS (S) 6), .int .u64 (wdS (S) 7)], .bool false]) (results_ct Try.results41 _ _ gs _ _ _ _ rfl (put8 HS2.out _ _ _ _ _ _ _ _) Try.underlying92 rfl (by kernel_rfl)) rfl (ValSet.bad HVB.out HE.out _ _ _ _ _ _ _ _ (below8 HB2.out HGL.out _ _ _ _ _ _ _ _))
       ·
        have d3 : decide (b ≤ p) = false := decide_eq_false a3
        have HV3 := Lib.hid (show vb = (bndB b (x.f1.drop (j + 1)) && R) by
         rw [HPV.out, show decide (p < b) = true from decide_eq_true (by omega), show decide (b < 4) = true from decide_eq_true (by omega)]; rfl)
        have HB0 := Lib.hid (show 0 ≤ b by omega)
        clear a1 a2 a3 hp0
        go_wp2_with fail
        go_roundg (x.f1.length - (j + 1))
        case measure => have := HMj.out; have := HJL.out; omega
        case rel => have h9 := HJL.out; exact ⟨j + 1, by rw [show wrap64 ((j : Int) + 1) = ((j + 1 : Nat) : Int) by unfold wrap64; omega], by omega, ⟨by omega⟩, ⟨b, HB0.out, HV3.out, fun i hi => by (obtain rfl : i = j := by omega); exact HBV.out.symm, fun h => by omega⟩, rfl⟩
     ·
      have q2 : decide ((j : Int) < (x.f1.length : Int)) = false := decide_eq_false (by omega)
      have q5 : decide (j < x.f1.length) = false := decide_eq_false hjl
      have HV3 := Lib.hid (show vb = R by rw [hpv, List.drop_eq_nil_of_le (by omega)]; rfl)
      clear hp0 hpv hps hpz
      have HAD := Lib.hid (setAdd_calls w0 wr S x.f0 HB2.out)
      have g0 := (blk_cell HG2.out 0).trans rfl
      (obtain ⟨es0, fs0⟩ := (HS2.out).get 0 (by decide); obtain ⟨es1, fs1⟩ := (HS2.out).get 1 (by decide); obtain ⟨es2, fs2⟩ := (HS2.out).get 2 (by decide); obtain ⟨es3, fs3⟩ := (HS2.out).get 3 (by decide); obtain ⟨es4, fs4⟩ := (HS2.out).get 4 (by decide); obtain ⟨es5, fs5⟩ := (HS2.out).get 5 (by decide); obtain ⟨es6, fs6⟩ := (HS2.out).get 6 (by decide); obtain ⟨es7, fs7⟩ := (HS2.out).get 7 (by decide))
      go_wp2_with fail
      refine HAD.out.mono ?_
      clear g0 g1 es0 es1 es2 es3 es4 es5 es6 es7 fs0 fs1 fs2 fs3 fs4 fs5 fs6 fs7 HAD
      rintro r w3 hP
      rcases hP with ⟨hi, rfl, hB3, hK3⟩ | ⟨hi, rfl, hB3, hK3⟩
      ·
       obtain ⟨T, hT⟩ : ∃ T, orS S (listS [x.f0]) = T := ⟨_, rfl⟩
       rw [hT]
       have HTT := Lib.hid (show stS (l.take (k + 1)) = T by rw [HST.out, hT])
       have HV4 := Lib.hid (show vb = vbB (prevS l (k + 1)) (l.drop (k + 1)) by
        rw [HV3.out, ← HR.out, hi, Bool.true_and]
        show _ = vbB (some (l.getD k z78).f0) (l.drop (k + 1))
        rw [HX.out])
       have HS3 := Lib.hid (show SetAt w3 gs S from blk_kept HS2.out hK3 id)
       have HB3 := Lib.hid hB3
       have HK3 := Lib.hid (HKw.out.then_ hK3 (fun _ h => h.elim))
       clear hT hi hB3 hK3
       (obtain ⟨es0, fs0⟩ := (HS3.out).get 0 (by decide); obtain ⟨es1, fs1⟩ := (HS3.out).get 1 (by decide); obtain ⟨es2, fs2⟩ := (HS3.out).get 2 (by decide); obtain ⟨es3, fs3⟩ := (HS3.out).get 3 (by decide); obtain ⟨es4, fs4⟩ := (HS3.out).get 4 (by decide); obtain ⟨es5, fs5⟩ := (HS3.out).get 5 (by decide); obtain ⟨es6, fs6⟩ := (HS3.out).get 6 (by decide); obtain ⟨es7, fs7⟩ := (HS3.out).get 7 (by decide))
       go_wp2_with fail
       go_roundg (l.length - (k + 1))
       case measure => have := HM.out; omega
       case rel => have h9 := HL.out; exact ⟨k + 1, by rw [show wrap64 ((k : Int) + 1) = ((k + 1 : Nat) : Int) by unfold wrap64; omega], by omega, ⟨by omega⟩, ⟨HV4.out⟩, ⟨by rw [HTT.out]; exact put8 HS3.out _ _ _ _ _ _ _ _⟩, ⟨below8 HB3.out HGL.out _ _ _ _ _ _ _ _⟩, ⟨kept8 HK3.out (.inr (by have := HGS.out; omega)) _ _ _ _ _ _ _ _⟩⟩
      ·
       have HE := Lib.hid (show vb = false by rw [HV3.out, ← HR.out, hi]; rfl)
       have HS3 := Lib.hid (show SetAt w3 gs S from blk_kept HS2.out hK3 id)
       have HB3 := Lib.hid hB3
       clear hi hB3 hK3
       (obtain ⟨es0, fs0⟩ := (HS3.out).get 0 (by decide); obtain ⟨es1, fs1⟩ := (HS3.out).get 1 (by decide); obtain ⟨es2, fs2⟩ := (HS3.out).get 2 (by decide); obtain ⟨es3, fs3⟩ := (HS3.out).get 3 (by decide); obtain ⟨es4, fs4⟩ := (HS3.out).get 4 (by decide); obtain ⟨es5, fs5⟩ := (HS3.out).get 5 (by decide); obtain ⟨es6, fs6⟩ := (HS3.out).get 6 (by decide); obtain ⟨es7, fs7⟩ := (HS3.out).get 7 (by decide))
       go_upto_region 14 with fail
       have HS4 := Lib.hid (put8 HS3.out 0 0 0 0 0 0 0 0)
       have HB4 := Lib.hid (below8 HB3.out HGL.out 0 0 0 0 0 0 0 0)
       clear es0 es1 es2 es3 es4 es5 es6 es7 fs0 fs1 fs2 fs3 fs4 fs5 fs6 fs7 HS3 HB3
       generalize ((((((((w3.setCell ⟨gs, 0, none⟩ (.int .u64 0)).setCell ⟨gs, 1, none⟩ (.int .u64 0)).setCell ⟨gs, 2, none⟩ (.int .u64 0)).setCell ⟨gs, 3, none⟩ (.int .u64 0)).setCell ⟨gs, 4, none⟩ (.int .u64 0)).setCell ⟨gs, 5, none⟩ (.int .u64 0)).setCell ⟨gs, 6, none⟩ (.int .u64 0)).setCell ⟨gs, 7, none⟩ (.int .u64 0)) = w4 at HS4 HB4 ⊢
       (have ez : ∀ j, j < 8 → w4.cell? ⟨gs, j, none⟩ = some (.int .u64 0) ∧ w4.frozen? ⟨gs, j, none⟩ = false := fun j hj => ⟨(by rw [blk_cell HS4.out]; obtain rfl | rfl | rfl | rfl | rfl | rfl | rfl | rfl : j = 0 ∨ j = 1 ∨ j = 2 ∨ j = 3 ∨ j = 4 ∨ j = 5 ∨ j = 6 ∨ j = 7 := (by omega); all_goals rfl), blk_frozen HS4.out _⟩); obtain ⟨ez0, ef0⟩ := ez 0 (by decide); obtain ⟨ez1, ef1⟩ := ez 1 (by decide); obtain ⟨ez2, ef2⟩ := ez 2 (by decide); obtain ⟨ez3, ef3⟩ := ez 3 (by decide); obtain ⟨ez4, ef4⟩ := ez 4 (by decide); obtain ⟨ez5, ef5⟩ := ez 5 (by decide); obtain ⟨ez6, ef6⟩ := ez 6 (by decide); obtain ⟨ez7, ef7⟩ := ez 7 (by decide); clear ez
       go_wp2_with fail
       refine bodyPost_ret (v := .tuple #[.agg #[.int .u64 0, .int .u64 0, .int .u64 0, .int .u64 0, .int .u64 0, .int .u64 0, .int .u64 0, .int .u64 0], .bool false]) (results_ct Try.results41 _ _ gs _ _ _ _ rfl (put8 HS4.out _ _ _ _ _ _ _ _) Try.underlying92 rfl (by kernel_rfl)) rfl (ValSet.bad HVB.out HE.out _ _ _ _ _ _ _ _ (below8 HB4.out HGL.out _ _ _ _ _ _ _ _))
  ·
   have q1 : decide ((k : Int) < (l.length : Int)) = false := decide_eq_false (by omega)
   have etk : l.take k = l := List.take_of_length_le (by omega)
   have HE := Lib.hid (show vb = true by rw [HV.out, List.drop_eq_nil_of_le (by omega)]; rfl)
   have hs := HS.out
   rw [etk] at hs
   obtain ⟨S, hS⟩ : ∃ S, stS l = S := ⟨_, rfl⟩
   rw [hS] at hs
   have HS2 := Lib.hid hs
   have HSS := Lib.hid hS
   clear etk hs hS HS
   (obtain ⟨es0, fs0⟩ := (HS2.out).get 0 (by decide); obtain ⟨es1, fs1⟩ := (HS2.out).get 1 (by decide); obtain ⟨es2, fs2⟩ := (HS2.out).get 2 (by decide); obtain ⟨es3, fs3⟩ := (HS2.out).get 3 (by decide); obtain ⟨es4, fs4⟩ := (HS2.out).get 4 (by decide); obtain ⟨es5, fs5⟩ := (HS2.out).get 5 (by decide); obtain ⟨es6, fs6⟩ := (HS2.out).get 6 (by decide); obtain ⟨es7, fs7⟩ := (HS2.out).get 7 (by decide))
   go_wp2_with fail
   refine bodyPost_ret (v := .tuple #[.agg #[.int .u64 (wdS (S) 0), .int .u64 (wdS (S) 1), .int .u64 (wdS (S) 2), .int .u64 (wdS (S) 3), .int .u64 (wdS (S) 4), .int .u64 (wdS (S) 5), .int .u64 (wdS (S) 6), .int .u64 (wdS (S) 7)], .bool true]) (results_ct Try.results41 _ _ gs _ _ _ _ rfl (put8 HS2.out _ _ _ _ _ _ _ _) Try.underlying92 rfl (by kernel_rfl)) rfl (ValSet.good HVB.out HE.out HSS.out (below8 HB.out HGL.out _ _ _ _ _ _ _ _))
end Go.Proofs.Ytenhigpeafaidaa.Q
-- Se
namespace Go.Proofs.Ytenhigpeafaidaa.Wire
open Go.RowKit Go.Proofs.YtenhigpeafaidaaW.PrintWords Go.Proofs.YtenhigpeafaidaaW.PrintLast Go.Proofs.YtenhigpeafaidaaW.PrintMore
set_option linter.unusedVariables false
set_option linter.unusedSimpArgs false

def pk8 (a0 a1 a2 a3 a4 a5 a6 a7 : Int) : Nat → Int
  | 0 => a0 | 1 => a1 | 2 => a2 | 3 => a3 | 4 => a4 | 5 => a5 | 6 => a6 | 7 => a7 | _ => 0
/-- The set with these words. -/
def unS (a0 a1 a2 a3 a4 a5 a6 a7 : Int) : Nat → Bool := fun i => (pk8 a0 a1 a2 a3 a4 a5 a6 a7 (i / 64)).toNat.testBit (i % 64)
def inW (a : Int) : Bool := decide (0 ≤ a) && decide (a < 18446744073709551616)
def okW (a0 a1 a2 a3 a4 a5 a6 a7 : Int) : Bool := inW a0 && (inW a1 && (inW a2 && (inW a3 && (inW a4 && (inW a5 && (inW a6 && inW a7))))))
theorem wd_testBit {a : Nat} (h : a < 2 ^ 64) : wd (fun b => a.testBit b) 64 = a := by
  apply Nat.eq_of_testBit_eq
  intro i
  rw [wd_bit]
  by_cases hi : i < 64
  · rw [decide_eq_true hi, Bool.true_and]
  · rw [decide_eq_false hi, Bool.false_and, Nat.testBit_lt_two_pow (Nat.lt_of_lt_of_le h (Nat.pow_le_pow_right (by decide) (by omega)))]
theorem wdS_un {a0 a1 a2 a3 a4 a5 a6 a7 : Int} {k : Nat} {a : Int} (hk : k < 8) (hp : pk8 a0 a1 a2 a3 a4 a5 a6 a7 k = a) (hw : inW a = true) : wdS (unS a0 a1 a2 a3 a4 a5 a6 a7) k = a := by
  have h : 0 ≤ a ∧ a < 18446744073709551616 := by unfold inW at hw; simpa using hw
  unfold wdS unS
  have e : ∀ b, b < 64 → (pk8 a0 a1 a2 a3 a4 a5 a6 a7 ((64 * k + b) / 64)).toNat.testBit ((64 * k + b) % 64) = a.toNat.testBit b := fun b hb => by
    rw [show (64 * k + b) / 64 = k by omega, show (64 * k + b) % 64 = b by omega, hp]
  rw [wd_ext e, wd_testBit (by have e : (2 : Nat) ^ 64 = 18446744073709551616 := by decide
                               omega)]
  omega
theorem okW_words {a0 a1 a2 a3 a4 a5 a6 a7 : Int} (h : okW a0 a1 a2 a3 a4 a5 a6 a7 = true) : #[.int .u64 (wdS (unS a0 a1 a2 a3 a4 a5 a6 a7) 0), .int .u64 (wdS (unS a0 a1 a2 a3 a4 a5 a6 a7) 1), .int .u64 (wdS (unS a0 a1 a2 a3 a4 a5 a6 a7) 2), .int .u64 (wdS (unS a0 a1 a2 a3 a4 a5 a6 a7) 3), .int .u64 (wdS (unS a0 a1 a2 a3 a4 a5 a6 a7) 4), .int .u64 (wdS (unS a0 a1 a2 a3 a4 a5 a6 a7) 5), .int .u64 (wdS (unS a0 a1 a2 a3 a4 a5 a6 a7) 6), .int .u64 (wdS (unS a0 a1 a2 a3 a4 a5 a6 a7) 7)] = (#[.int .u64 a0, .int .u64 a1, .int .u64 a2, .int .u64 a3, .int .u64 a4, .int .u64 a5, .int .u64 a6, .int .u64 a7] : Array Value) := by
  unfold okW at h
  simp only [Bool.and_eq_true] at h
  obtain ⟨h0, h1, h2, h3, h4, h5, h6, h7⟩ := h
  rw [wdS_un (k := 0) (by decide) rfl h0, wdS_un (k := 1) (by decide) rfl h1, wdS_un (k := 2) (by decide) rfl h2, wdS_un (k := 3) (by decide) rfl h3, wdS_un (k := 4) (by decide) rfl h4, wdS_un (k := 5) (by decide) rfl h5, wdS_un (k := 6) (by decide) rfl h6, wdS_un (k := 7) (by decide) rfl h7]
  rfl
theorem inW_wd (S : Nat → Bool) (k : Nat) : inW (wdS S k) = true := by
  have := wdS_range S k
  unfold inW
  simp [this.1, this.2]
theorem okW_wd (S : Nat → Bool) : okW (wdS S 0) (wdS S 1) (wdS S 2) (wdS S 3) (wdS S 4) (wdS S 5) (wdS S 6) (wdS S 7) = true := by
  unfold okW
  simp only [inW_wd, Bool.and_self]
theorem of_words {S T : Nat → Bool} (h : ∀ k, k < 8 → wdS S k = wdS T k) {i : Nat} (hi : i < 512) : S i = T i := by
  have h1 := h (i / 64) (by omega)
  unfold wdS at h1
  have h2 : wd (fun b => S (64 * (i / 64) + b)) 64 = wd (fun b => T (64 * (i / 64) + b)) 64 := by omega
  have h3 := congrArg (fun n => n.testBit (i % 64)) h2
  simp only [wd_bit] at h3
  rw [decide_eq_true (by omega), Bool.true_and, Bool.true_and, show 64 * (i / 64) + i % 64 = i by omega] at h3
  exact h3
/-- The set of a set's words is that set. -/
theorem un_wd (S : Nat → Bool) {i : Nat} (hi : i < 512) : unS (wdS S 0) (wdS S 1) (wdS S 2) (wdS S 3) (wdS S 4) (wdS S 5) (wdS S 6) (wdS S 7) i = S i := by
  refine of_words (fun k hk => ?_) hi
  obtain rfl | rfl | rfl | rfl | rfl | rfl | rfl | rfl : k = 0 ∨ k = 1 ∨ k = 2 ∨ k = 3 ∨ k = 4 ∨ k = 5 ∨ k = 6 ∨ k = 7 := by omega
  all_goals exact wdS_un (by decide) rfl (inW_wd S _)
theorem hasB_un (S : Nat → Bool) (i : Int) : hasB (unS (wdS S 0) (wdS S 1) (wdS S 2) (wdS S 3) (wdS S 4) (wdS S 5) (wdS S 6) (wdS S 7)) i = hasB S i := by
  unfold hasB
  cases h : inS i with
  | false => rfl
  | true =>
    have : 0 ≤ i ∧ i < 512 := by unfold inS at h; simpa using h
    rw [un_wd S (by omega)]
end Go.Proofs.Ytenhigpeafaidaa.Wire
-- Tx0
-- Printed by a program of this session's over the kit's printer, with functions given from outside. Lean checks it.
namespace Go.Proofs.Ytenhigpeafaidaa.T
open Go.RowKit Go.Proofs.YtenhigpeafaidaaW.PrintWords Go.Proofs.YtenhigpeafaidaaW.PrintLast Go.Proofs.YtenhigpeafaidaaW.PrintMore Go.Proofs.Ytenhigpeafaidaa.Q
attribute [local go_sem] max2_int min2_int max_two min_two max_three min_three max_four min_four   -- for this text's walks alone
set_option linter.unusedVariables false
set_option linter.unusedSimpArgs false

class BlkS (w : outParam World) (w' : World) : Prop where
 up : ∀ {g : Nat} {o : Obj}, w.heap[g]? = some o → w'.heap[g]? = some o
instance {w : World} {o : Obj} : BlkS w (w.alloc o) := ⟨fun h => blk_alloc h o⟩
instance {w : World} {n : Nat} : BlkS w (w.drewN n) := ⟨fun h => blk_drewN h n⟩
instance {w : World} : BlkS w w.drew := ⟨fun h => blk_drew h⟩
theorem bk {w w' : World} {g : Nat} {o : Obj} [i : BlkS w w'] (h : w.heap[g]? = some o) : w'.heap[g]? = some o := i.up h
class BlkC (w w' : World) : Prop where
 up : ∀ {g : Nat} {o : Obj}, w.heap[g]? = some o → w'.heap[g]? = some o
instance {w : World} : BlkC w w := ⟨id⟩
instance {w w' : World} {o : Obj} [i : BlkC w w'] : BlkC w (w'.alloc o) := ⟨fun h => blk_alloc (i.up h) o⟩
instance {w w' : World} {n : Nat} [i : BlkC w w'] : BlkC w (w'.drewN n) := ⟨fun h => blk_drewN (i.up h) n⟩
instance {w w' : World} [i : BlkC w w'] : BlkC w w'.drew := ⟨fun h => blk_drew (i.up h)⟩
theorem bb {w w1 w2 : World} {g : Nat} {o : Obj} [i : BlkC w w1] (h : w.heap[g]? = some o) (hb : Below w1.heap.size w1 w2) : w2.heap[g]? = some o := blk_below (i.up h) hb
theorem bl {w w1 : World} {g : Nat} {o : Obj} [i : BlkC w w1] (h : w.heap[g]? = some o) : g < w1.heap.size := blk_lt (i.up h)
theorem bg {w w1 w2 : World} {g : Nat} {o : Obj} {row : Option Nat} [i : BlkC w w1] (h : w.heap[g]? = some o) (hg : w1.grownBy w2 row) (hne : some g ≠ row) : w2.heap[g]? = some o := blk_grown (i.up h) hg hne
theorem bc3 {w : World} {g t : Nat} {a b c : Value} (H : w.heap[g]? = some (.cells #[a, b, c] t (0, 0))) : w.cell? ⟨g, 0, none⟩ = some a ∧ w.cell? ⟨g, 1, none⟩ = some b ∧ w.cell? ⟨g, 2, none⟩ = some c := ⟨(blk_cell H 0).trans rfl, (blk_cell H 1).trans rfl, (blk_cell H 2).trans rfl⟩
theorem bz3 {w : World} {g t : Nat} {cs : Array Value} (H : w.heap[g]? = some (.cells cs t (0, 0))) : w.frozen? ⟨g, 0, none⟩ = false ∧ w.frozen? ⟨g, 1, none⟩ = false ∧ w.frozen? ⟨g, 2, none⟩ = false := ⟨blk_frozen H 0, blk_frozen H 1, blk_frozen H 2⟩
theorem bc4 {w : World} {g t : Nat} {a b c d : Value} (H : w.heap[g]? = some (.cells #[a, b, c, d] t (0, 0))) : w.cell? ⟨g, 0, none⟩ = some a ∧ w.cell? ⟨g, 1, none⟩ = some b ∧ w.cell? ⟨g, 2, none⟩ = some c ∧ w.cell? ⟨g, 3, none⟩ = some d := ⟨(blk_cell H 0).trans rfl, (blk_cell H 1).trans rfl, (blk_cell H 2).trans rfl, (blk_cell H 3).trans rfl⟩
theorem bz4 {w : World} {g t : Nat} {cs : Array Value} (H : w.heap[g]? = some (.cells cs t (0, 0))) : w.frozen? ⟨g, 0, none⟩ = false ∧ w.frozen? ⟨g, 1, none⟩ = false ∧ w.frozen? ⟨g, 2, none⟩ = false ∧ w.frozen? ⟨g, 3, none⟩ = false := ⟨blk_frozen H 0, blk_frozen H 1, blk_frozen H 2, blk_frozen H 3⟩
theorem bc5 {w : World} {g t : Nat} {a b c d e : Value} (H : w.heap[g]? = some (.cells #[a, b, c, d, e] t (0, 0))) : w.cell? ⟨g, 0, none⟩ = some a ∧ w.cell? ⟨g, 1, none⟩ = some b ∧ w.cell? ⟨g, 2, none⟩ = some c ∧ w.cell? ⟨g, 3, none⟩ = some d ∧ w.cell? ⟨g, 4, none⟩ = some e := ⟨(blk_cell H 0).trans rfl, (blk_cell H 1).trans rfl, (blk_cell H 2).trans rfl, (blk_cell H 3).trans rfl, (blk_cell H 4).trans rfl⟩
theorem bz5 {w : World} {g t : Nat} {cs : Array Value} (H : w.heap[g]? = some (.cells cs t (0, 0))) : w.frozen? ⟨g, 0, none⟩ = false ∧ w.frozen? ⟨g, 1, none⟩ = false ∧ w.frozen? ⟨g, 2, none⟩ = false ∧ w.frozen? ⟨g, 3, none⟩ = false ∧ w.frozen? ⟨g, 4, none⟩ = false := ⟨blk_frozen H 0, blk_frozen H 1, blk_frozen H 2, blk_frozen H 3, blk_frozen H 4⟩
theorem bc8 {w : World} {g t : Nat} {a b c d e f h i : Value} (H : w.heap[g]? = some (.cells #[a, b, c, d, e, f, h, i] t (0, 0))) : w.cell? ⟨g, 0, none⟩ = some a ∧ w.cell? ⟨g, 1, none⟩ = some b ∧ w.cell? ⟨g, 2, none⟩ = some c ∧ w.cell? ⟨g, 3, none⟩ = some d ∧ w.cell? ⟨g, 4, none⟩ = some e ∧ w.cell? ⟨g, 5, none⟩ = some f ∧ w.cell? ⟨g, 6, none⟩ = some h ∧ w.cell? ⟨g, 7, none⟩ = some i := ⟨(blk_cell H 0).trans rfl, (blk_cell H 1).trans rfl, (blk_cell H 2).trans rfl, (blk_cell H 3).trans rfl, (blk_cell H 4).trans rfl, (blk_cell H 5).trans rfl, (blk_cell H 6).trans rfl, (blk_cell H 7).trans rfl⟩
theorem bz8 {w : World} {g t : Nat} {cs : Array Value} (H : w.heap[g]? = some (.cells cs t (0, 0))) : w.frozen? ⟨g, 0, none⟩ = false ∧ w.frozen? ⟨g, 1, none⟩ = false ∧ w.frozen? ⟨g, 2, none⟩ = false ∧ w.frozen? ⟨g, 3, none⟩ = false ∧ w.frozen? ⟨g, 4, none⟩ = false ∧ w.frozen? ⟨g, 5, none⟩ = false ∧ w.frozen? ⟨g, 6, none⟩ = false ∧ w.frozen? ⟨g, 7, none⟩ = false := ⟨blk_frozen H 0, blk_frozen H 1, blk_frozen H 2, blk_frozen H 3, blk_frozen H 4, blk_frozen H 5, blk_frozen H 6, blk_frozen H 7⟩

end Go.Proofs.Ytenhigpeafaidaa.T
-- Tx1
-- Printed by a program of this session's over the kit's printer, with functions given from outside. Lean checks it.
namespace Go.Proofs.Ytenhigpeafaidaa.T
open Go.RowKit Go.Proofs.YtenhigpeafaidaaW.PrintWords Go.Proofs.YtenhigpeafaidaaW.PrintLast Go.Proofs.YtenhigpeafaidaaW.PrintMore Go.Proofs.Ytenhigpeafaidaa.Q
attribute [local go_sem] max2_int min2_int max_two min_two max_three min_three max_four min_four   -- for this text's walks alone
set_option linter.unusedVariables false
set_option linter.unusedSimpArgs false

/-! ### band_Channels: function 13 -/
def band_Channels.f (a0 : Int) (a1_0 : Int) : Option (List Int × Int) := if -9223372036854775808 ≤ a1_0 ∧ a1_0 ≤ 9223372036854775807 then some ((if Wire.erB a0 = 0 ∧ Wire.isTarget a1_0 = true then Wire.chansB a0 a1_0 else []), (if Wire.erB a0 = 0 ∧ Wire.isTarget a1_0 = true then 0 else 2)) else none
theorem band_Channels.calls (a0 : Int) (a1_0 : Int) (r1 : List Int) (r2 : Int) (w : World) (h : band_Channels.f a0 a1_0 = some (r1, r2)) :
  Calls Try.prog 13 #[.int .i64 a0, .agg #[.int .i64 a1_0]] w fun e w' => ∃ v0_ : Value, e = .returned (.tuple #[v0_, .int .i64 r2]) ∧ Kd.R (Kd.int .i64) 3 w' w.heap.size (fun _ => True) v0_ r1 ∧ Below w.heap.size w w' := by
 unfold band_Channels.f at h
 split at h
 ·
  rename_i hb
  cases h
  refine (Wire.channels_calls w w a0 a1_0 hb.1 hb.2 (Below.refl _ _)).mono ?_
  rintro e w' ⟨v, rfl, hR, hB, hK⟩
  exact ⟨v, rfl, Kd.R_mono hR (fun _ _ => trivial), hB⟩
 ·
  cases h

/-! ### band_Valid: function 28 -/
def band_Valid.f (a0_0 : Int) : Option (Bool) := if -9223372036854775808 ≤ a0_0 ∧ a0_0 ≤ 9223372036854775807 then some (Wire.isTarget a0_0) else none
theorem band_Valid.calls (a0_0 : Int) (r : Bool) (w : World) (h : band_Valid.f a0_0 = some r) :
  Calls Try.prog 28 #[.agg #[.int .i64 a0_0]] w fun e w' => e = .returned (.bool r) ∧ Below w.heap.size w w' := by
 unfold band_Valid.f at h
 split at h
 ·
  rename_i hb
  cases h
  refine (Wire.valid_calls w w a0_0 hb.1 hb.2 (Below.refl _ _)).mono ?_
  rintro e w' ⟨rfl, hB, _⟩
  exact ⟨rfl, hB⟩
 ·
  cases h

/-! ### band_valid: function 41 -/
def band_valid.f (l0 : List (S78)) : Option (Int × Int × Int × Int × Int × Int × Int × Int × Bool) := if Q.vbB none l0 = true ∧ l0.length ≤ 1000000000 then some (Wire.wdS (Q.stS l0) 0, Wire.wdS (Q.stS l0) 1, Wire.wdS (Q.stS l0) 2, Wire.wdS (Q.stS l0) 3, Wire.wdS (Q.stS l0) 4, Wire.wdS (Q.stS l0) 5, Wire.wdS (Q.stS l0) 6, Wire.wdS (Q.stS l0) 7, true) else none
theorem band_valid.calls (A0 : Option Addr) (c0 : Nat) (l0 : List (S78)) (r1 : Int) (r2 : Int) (r3 : Int) (r4 : Int) (r5 : Int) (r6 : Int) (r7 : Int) (r8 : Int) (r9 : Bool) (w : World) (hr0 : Kd.C k78 w A0 l0.length l0) (hc0 : l0.length ≤ c0) (h : band_valid.f l0 = some (r1, r2, r3, r4, r5, r6, r7, r8, r9)) :
  Calls Try.prog 41 #[.slice A0 l0.length c0] w fun e w' => e = .returned (.tuple #[.agg #[.int .u64 r1, .int .u64 r2, .int .u64 r3, .int .u64 r4, .int .u64 r5, .int .u64 r6, .int .u64 r7, .int .u64 r8], .bool r9]) ∧ Below w.heap.size w w' := by
 unfold band_valid.f at h
 split at h
 ·
  rename_i hb
  cases h
  refine (Q.bandValid_calls w w A0 c0 l0 (Below.refl _ _) hr0 hb.2).mono ?_
  rintro e w' ⟨hP, hB⟩
  rcases hP with ⟨_, rfl⟩ | ⟨hv, _⟩
  ·
   exact ⟨rfl, hB⟩
  ·
   rw [hb.1] at hv; exact absurd hv (by decide)
 ·
  cases h

/-! ### problem_ValidRules: function 42 -/
def problem_ValidRules.f (l0_0 : List (S84)) (l0_1 : List (S97)) (l0_2 : List (S99)) : Option (Bool) := some (Q.rulesB l0_0 l0_1 l0_2)
theorem problem_ValidRules.calls (A0_0 : Option Addr) (c0_0 : Nat) (l0_0 : List (S84)) (A0_1 : Option Addr) (c0_1 : Nat) (l0_1 : List (S97)) (A0_2 : Option Addr) (c0_2 : Nat) (l0_2 : List (S99)) (r : Bool) (w : World) (hr0_0 : Kd.C k84 w A0_0 l0_0.length l0_0) (hc0_0 : l0_0.length ≤ c0_0) (hr0_1 : Kd.C k97 w A0_1 l0_1.length l0_1) (hc0_1 : l0_1.length ≤ c0_1) (hr0_2 : Kd.C k99 w A0_2 l0_2.length l0_2) (hc0_2 : l0_2.length ≤ c0_2) (h : problem_ValidRules.f l0_0 l0_1 l0_2 = some r) :
  Calls Try.prog 42 #[.agg #[.slice A0_0 l0_0.length c0_0, .slice A0_1 l0_1.length c0_1, .slice A0_2 l0_2.length c0_2]] w fun e w' => e = .returned (.bool r) ∧ Below w.heap.size w w' := by
 unfold problem_ValidRules.f at h
 cases h
 refine (Q.validRules_calls w w A0_0 c0_0 l0_0 A0_1 c0_1 l0_1 A0_2 c0_2 l0_2 (Below.refl _ _) hr0_0 hr0_1 hr0_2).mono ?_
 rintro e w' ⟨rfl, hB⟩
 exact ⟨rfl, hB⟩

/-! ### bitset_Set_Has: function 43 -/
def bitset_Set_Has.f (a0_0 : Int) (a0_1 : Int) (a0_2 : Int) (a0_3 : Int) (a0_4 : Int) (a0_5 : Int) (a0_6 : Int) (a0_7 : Int) (a1 : Int) : Option (Bool) := if Wire.okW a0_0 a0_1 a0_2 a0_3 a0_4 a0_5 a0_6 a0_7 = true then some (Wire.hasB (Wire.unS a0_0 a0_1 a0_2 a0_3 a0_4 a0_5 a0_6 a0_7) a1) else none
theorem bitset_Set_Has.calls (a0_0 : Int) (a0_1 : Int) (a0_2 : Int) (a0_3 : Int) (a0_4 : Int) (a0_5 : Int) (a0_6 : Int) (a0_7 : Int) (a1 : Int) (r : Bool) (w : World) (h : bitset_Set_Has.f a0_0 a0_1 a0_2 a0_3 a0_4 a0_5 a0_6 a0_7 a1 = some r) :
  Calls Try.prog 43 #[.agg #[.int .u64 a0_0, .int .u64 a0_1, .int .u64 a0_2, .int .u64 a0_3, .int .u64 a0_4, .int .u64 a0_5, .int .u64 a0_6, .int .u64 a0_7], .int .i64 a1] w fun e w' => e = .returned (.bool r) ∧ Below w.heap.size w w' := by
 unfold bitset_Set_Has.f at h
 split at h
 ·
  rename_i hb
  cases h
  rw [← Wire.okW_words hb]
  refine (Wire.setHas_calls w w (Wire.unS a0_0 a0_1 a0_2 a0_3 a0_4 a0_5 a0_6 a0_7) a1 (Below.refl _ _)).mono ?_
  rintro e w' ⟨rfl, hB, _⟩
  exact ⟨rfl, hB⟩
 ·
  cases h

end Go.Proofs.Ytenhigpeafaidaa.T

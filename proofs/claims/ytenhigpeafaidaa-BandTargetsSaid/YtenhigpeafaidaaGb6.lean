/- Contracts of the functions that the statements reach, part 6: what each call answers and leaves. Conditions: those that each theorem states. -/
import Derived.RangeFuncNested
import Derived.RangeFuncBound
import Derived.RangeFuncCalls
import Derived.RangeFuncLeaves
import Derived.Deep.RegionHeld3
import Derived.Test.YtenhigpeafaidaaGb2
import Derived.Test.YtenhigpeafaidaaGb3
import Derived.Shelf.Abstract
import Derived.Shelf.RegionOpen
import Derived.WalkKit
import Derived.OwnWalkIn
import Derived.TacticsInMore
import Derived.LoopNIn
import Derived.LoopIn
import Derived.Test.YtenhigpeafaidaaGb5
import Derived.Deep.CutBlock
import Derived.Deep.CutRange
import Derived.Test.YtenhigpeafaidaaProg
import Derived.Below
import Derived.Deep.Draws
import Derived.Deep.AppendLies
import Derived.Maps.AppendAt
import Derived.OwnWalk
import Derived.Laws.BytesArg
import Derived.Laws.MakeOwn
import Derived.Laws.OwnMore
import Derived.Deep.OwnRows
import Derived.Tactics
import Derived.Lib.ConvBytes
import Derived.Laws.Slices
import Derived.KernelRfl
import Derived.RowKit3
import Derived.Deep.LoopGhost
import Derived.Deep.QuietTactic
import Derived.BigQuiet
import Derived.WideLaws
import Derived.Deep.DeepCutAuto
import Derived.Laws.Rows
import Derived.Lib.AppendStr
import Derived.ArgAppend
import Derived.Laws.IdiomCopy
import Derived.OrdersHeld
import Derived.Laws.BitsLemmas
import Derived.RowKit
-- Rf
namespace Go.Proofs.Ytenhigpeafaidaa.Wire
open Go
set_option linter.unusedVariables false
/-- Q, but false at a panic and where memory is at its end. -/
def NoPO (Q : Exit → Act → World → Prop) : Exit → Act → World → Prop
 | .panic _, _, _ => False
 | .outgrown, _, _ => False
 | e, a, w => Q e a w
theorem NoPO.normal {Q : Exit → Act → World → Prop} {a : Act} {w : World} (h : Q .normal a w) : NoPO Q .normal a w := h
theorem NoPO.imp {Q : Exit → Act → World → Prop} : ∀ (e : Exit) (a : Act) (w : World), NoPO Q e a w → Q e a w := fun e a w h => by
 cases e <;> first | exact h | exact (h : False).elim
theorem NoPO.not_out {Q : Exit → Act → World → Prop} : ¬ LetsOut (NoPO Q) := fun ⟨_, _, h⟩ => h
theorem rowsIn_wide {n : Nat} {P : Program} {row : String} {args : Array Value} {w : World} {R : Value → World → Prop} (h : Rows P row args w R) : RowsIn Fence.wide n P row args w R :=
 fun c cs _ => let ⟨v, w', r, s⟩ := h c cs; ⟨v, w', r, stepsIn_wide.2 s⟩
theorem uponIn_of_upon {l n : Nat} {P : Program} {o : Oper} {a : Act} {next : Act → World → Prop} {Q : Exit → Act → World → Prop} {r : Result Next} (h : o.upon P a next Q r) : o.uponIn (Fence.wide.inRound l) n P a next Q r := by
 cases r with
 | ok x w' =>
  cases x <;> simp only [Oper.upon] at h <;> simp only [Oper.uponIn] <;> first
   | exact h
   | exact h.elim
   | exact ⟨(fun e => by cases e), CallsIn.inRound l (callsIn_wide.2 (h.mono (fun e w'' he => by cases e <;> exact he)))⟩
   | exact ⟨(fun e => by cases e), rowsIn_wide h⟩
 | halt x w' => cases x <;> simp only [Oper.upon] at h <;> simp only [Oper.uponIn] <;> first | exact h | exact h.elim
def noDefer (ops : Array Oper) : Bool := ops.all fun o => match o.op with | .defer _ => false | _ => true
theorem noDefer_spec {ops : Array Oper} (h : noDefer ops = true) {i : Nat} {o : Oper} (ho : ops[i]? = some o) : ∀ c, o.op ≠ .defer c := by
 intro c e
 unfold noDefer at h
 rw [Array.all_eq_true] at h
 obtain ⟨hi, he⟩ := Array.getElem?_eq_some_iff.1 ho
 have := h i hi
 rw [he, e] at this
 exact absurd this (by simp)
theorem wpOpsIn_of {l n : Nat} {P : Program} {ops : Array Oper} {Q : Exit → Act → World → Prop} (hd : noDefer ops = true) (hno : ¬ LetsOut Q) : ∀ (L : List Nat) (a : Act) (w : World), wpOps P ops Q L a w → wpOpsIn (Fence.wide.inRound l) n P ops Q L a w
 | [], _, _, h => h
 | i :: rest, a, w, h => by
  simp only [wpOps] at h
  simp only [wpOpsIn]
  cases ho : ops[i]? with
  | none => simp only [ho] at h ⊢; exact wpOpsIn_of hd hno rest a w h
  | some o =>
   simp only [ho] at h ⊢
   by_cases hw : Region.wanted o (yielded ops a.tmps) = true
   ·
    simp only [hw, if_true] at h ⊢
    rcases h with h | ⟨_, hq⟩
    ·
     refine ⟨fun _ _ => trivial, ?_⟩
     rw [Oper.semAt_eq _ _ _ (noDefer_spec hd ho)]
     have h2 : o.wp P a w (wpOpsIn (Fence.wide.inRound l) n P ops Q rest) Q := Oper.wp_mono (fun a w => wpOpsIn_of hd hno rest a w) h
     exact uponIn_of_upon h2
    ·
     exact absurd hq hno
   ·
    simp only [hw] at h ⊢
    exact ⟨fun _ _ => trivial, wpOpsIn_of hd hno rest _ w h⟩
/-- A region that draws its order, in a round. -/
theorem rf_region_held {l n id : Nat} {P : Program} {ops : Array Oper} {Q : Exit → Act → World → Prop} {S : World → Prop} {a : Act} {w : World} (hd : noDefer ops = true) (hm : P.follows .mixedOrders = true) (hS : S w.drew)
  (h : S w.drew → wpAnyH P .any ops (NoPO Q) S ops.size (Array.replicate ops.size false) a w.drew) : (Code.region id ops true).wpIn (Fence.wide.inRound l) n P Q a w := by
 refine wpIn_mono ?_ NoPO.imp
 refine wpIn_region_draw fun t => wpOpsIn_of hd NoPO.not_out _ _ _ ?_
 simp only [Region.schedule, hm, Bool.true_or, if_true]
 exact wpAny_sound ops.size t _ a _ (wpAny_of_held _ _ _ _ (h hS))
end Go.Proofs.Ytenhigpeafaidaa.Wire
-- Tg
namespace Go.Proofs.Ytenhigpeafaidaa.Wire
open Go Go.Proofs Go.RowKit Go.Maps Go.Shelf Go.Proofs.YtenhigpeafaidaaW.PrintWords Go.Proofs.YtenhigpeafaidaaW.PrintLast Go.Proofs.YtenhigpeafaidaaW.PrintMore
attribute [local go_sem] Oper.semAt_some
set_option linter.unusedVariables false
set_option linter.unusedSimpArgs false

/-- What a round is handed: the place and the target that stands there. -/
abbrev encT (x : Nat) : Array Value := #[.int .i64 (x : Int), .agg #[.int .i64 (tabL.getD x 0)]]

set_option maxRecDepth 100000 in
set_option maxHeartbeats 4000000 in
theorem targets1_in (F : Fence) (n : Nat) (h8 : F.fn 56) (hro : F.round = none) (hn : 1 ≤ n) (l Bs n₀ : Nat) (hb : Bs < n₀) (J Jx : List Nat → World → Prop)
  (hY : ∀ (pre : List Nat) (x : Nat) (W : World), J pre W → pre.length < 11 → YieldAt F (n - 1) Try.prog l #[.int .i64 (x : Int), .agg #[.int .i64 (tabL.getD x 0)]] W fun e W' =>
   (e = .returned (.bool true) ∧ J (pre ++ [x]) W' ∧ Below n₀ W W') ∨ (e = .returned (.bool false) ∧ Jx (pre ++ [x]) W'))
  (W : World) (hBs : W.heap[Bs]? = some (.cells tabV 107 (0, 0))) (h0 : J [] W) :
  CallsIn F n Try.prog 56 #[.func (.yield l) #[] #[], .pointer (some ⟨Bs, 0, none⟩)] W fun e W' => (∃ v, e = .returned v) ∧
   ((∃ ys, ys = List.range 11 ∧ J ys W') ∨ (∃ pre, (∃ k, k ≤ 11 ∧ pre = List.range k) ∧ Jx pre W')) := by
 have hc : ∀ j, j < 11 → W.cell? ⟨Bs, j, none⟩ = some (.int .i64 (tabL.getD j 0)) := fun j hj => by
  exact (blk_cell hBs j).trans (by rw [tabV_at j hj])
 refine callsIn_of_wp Try.func56 rfl h8 ?_ hro
 simp only [Try.ntmps56, List.size_toArray, List.length_cons, List.length_nil, Nat.reduceAdd, Nat.reduceSub, Array.replicate_succ, Array.replicate_zero, List.push_toArray, List.append_toArray, List.nil_append, List.cons_append]
 gi_wp2
 gi_loopw [7] (fun i wr => ∃ k : Nat, k ≤ 11 ∧ i = .int .i64 k ∧ J (List.range k) wr ∧ Below n₀ W wr)
  (fun i _ => 11 - (intOf i).toNat)
 case atStart => exact ⟨0, Nat.zero_le _, rfl, h0, Below.refl _ _⟩
 case round =>
  obtain ⟨k, hk, rfl, hJs, hnx⟩ := hrel
  have hcx : k < 11 → wr.cell? ⟨Bs, k, none⟩ = some (.int .i64 (tabL.getD k 0)) := fun h => (hnx.cell (p := ⟨Bs, k, none⟩) hb).trans (hc k h)
  by_cases hlt : k < 11
  ·
   obtain ⟨fn, tmps, assign, body, hy, hR⟩ := hY _ k wr hJs (by rw [List.length_range]; exact hlt)
   simp only [List.getD_eq_getElem?_getD] at hy
   have hcx' := hcx hlt
   gi_wp2
   refine hR.mono ?_
   rintro e W3 (⟨rfl, hJ3, hk3⟩ | ⟨rfl, hJx3⟩)
   ·
    gi_wp2
    go_roundw
    case rel => exact ⟨k + 1, by omega, by simp, by rw [List.range_succ]; exact hJ3, hnx.trans hk3⟩
    case measure => simp [intOf]; omega
   ·
    gi_wp2
    refine bodyPost_ret (results_none rfl _ _ _) rfl ?_
    exact ⟨⟨_, rfl⟩, .inr ⟨_, ⟨k + 1, by omega, List.range_succ.symm⟩, hJx3⟩⟩
  ·
   obtain rfl : k = 11 := by omega
   gi_wp2
   go_end0
   exact ⟨⟨_, rfl⟩, .inl ⟨_, rfl, hJs⟩⟩

theorem targets_stops (F : Fence) (n : Nat) (h8 : F.fn 56) (hro : F.round = none) (hn : 1 ≤ n) (Bs n₀ : Nat) (w : World) (hBs : Bs < w.heap.size) (hb : Bs < n₀) (hc : w.heap[Bs]? = some (.cells tabV 107 (0, 0))) :
  SeqStopsK F n Try.prog 56 #[.pointer (some ⟨Bs, 0, none⟩)] encT (Below n₀) (fun ys => ys = List.range 11) (fun pre => ∃ k, k ≤ 11 ∧ pre = List.range k) 11 w := fun l J Jx W hW _ _ hY h0 => by
 refine (targets1_in F n h8 hro hn l Bs n₀ hb J Jx hY W (blk_below hc hW) h0).mono ?_
 rintro e W' ⟨he, ⟨ys, rfl, hj⟩ | ⟨pre, ⟨k, hk, rfl⟩, hj⟩⟩
 ·
  exact ⟨he, .inl ⟨_, rfl, hj⟩⟩
 ·
  exact ⟨he, .inr ⟨_, ⟨k, hk, rfl⟩, hj⟩⟩

/-- A range function over the table. -/
def TargetsPost (w0 w : World) (r : Ending) (w' : World) : Prop := ∃ b, r = .returned (.func (.func 56) #[] #[.pointer (some ⟨b, 0, none⟩)]) ∧ w.heap.size ≤ b ∧ w'.heap[b]? = some (.cells tabV 107 (0, 0)) ∧ Below w0.heap.size w0 w'
set_option maxHeartbeats 4000000 in
set_option maxRecDepth 100000 in
theorem targets_calls (w0 w : World) (hB : Below w0.heap.size w0 w) : Calls Try.prog 31 #[] w (TargetsPost w0 w) := by
 have HT := Lib.hid (table_calls w0 w hB)
 clear hB
 go_enter Try.func31, Try.ntmps31
 go_wp2_with fail
 refine HT.out.mono ?_
 rintro r w2 ⟨b, rfl, hb, hT, hB2, hK2⟩
 have HT2 := Lib.hid (blk_new w2 (.cells tabV 107))
 have HB2 := Lib.hid (below_alloc' hB2 (.cells tabV 107))
 have HSZ := Lib.hid hK2.1
 clear hb hT hB2 hK2 HT
 unfold tabV
 go_wp2_with fail
 go_ret
 exact ⟨_, rfl, HSZ.out, HT2.out, HB2.out⟩
end Go.Proofs.Ytenhigpeafaidaa.Wire
-- Tha
namespace Go.Proofs.Ytenhigpeafaidaa.U
open Go.RowKit Go.Maps Go.Proofs.YtenhigpeafaidaaW.PrintWords Go.Proofs.YtenhigpeafaidaaW.PrintLast Go.Proofs.YtenhigpeafaidaaW.PrintMore Go.Proofs.Ytenhigpeafaidaa.Wire Go.Proofs.Ytenhigpeafaidaa.Q Go.Proofs.Ytenhigpeafaidaa.T
set_option linter.unusedVariables false
set_option linter.unusedSimpArgs false

/-- A call that answers v and keeps every block. -/
def Ans (f : FuncId) (args : Array Value) (v : Value) : Prop := ∀ w W : World, Below w.heap.size w W → Calls Try.prog f args W (fun r w' => r = .returned v ∧ Below w.heap.size w w' ∧ Kept W w' (fun _ => False))
theorem a_to (n : Int) : Ans 14 #[.int .i64 n] (.agg #[.int .i64 n]) := fun w W hB => to_c w W n hB
theorem a_valid (n : Int) (h : (Lit.int .i64 n).wf = true) : Ans 28 #[.agg #[.int .i64 n]] (.bool (isTarget n)) := fun w W hB =>
 valid_calls w W n (wf_i64 h).1 (wf_i64 h).2 hB
theorem a_blocks (n : Int) (h : (Lit.int .i64 n).wf = true) : Ans 26 #[.agg #[.int .i64 n]] (.tuple #[.int .i64 (if isTarget n = true then blk 11 n else 0), .int .i64 (if isTarget n = true then 0 else 2)]) := fun w W hB =>
 blocks_calls w W n (wf_i64 h).1 (wf_i64 h).2 hB
theorem a_next (n : Int) : Ans 27 #[.agg #[.int .i64 n]] (.tuple #[.agg #[.int .i64 (nextV n)], .int .i64 (nextE n)]) := fun w W hB => k_next w W n _ _ ⟨rfl, rfl⟩ hB
theorem a_at (n : Int) : Ans 15 #[.agg #[.int .i64 n]] (.int .i64 (ixL n tabL 0)) := fun w W hB => by
 obtain ⟨k, hk⟩ := Go.Proofs.YtenhigpeafaidaaW.PrintWords.Ev.rounds (at_ev n)
 exact (bandplanref26_At.calls k n _ W hk).mono (fun r w' h => ⟨h.1, below_step hB h.2, Kept.of_below h.2 _⟩)
/-- The list of what targets clear. -/
def Clr (w W : World) (r : Ending) (w' : World) : Prop := ∃ A c, r = .returned (.slice (some A) 11 c) ∧ (Kd.int .i64).C w' (some A) 11 tabL ∧ Below w.heap.size w w' ∧ Kept W w' (fun _ => False)
theorem a_cleared (w W : World) (hB : Below w.heap.size w W) : Calls Try.prog 30 #[] W (Clr w W) := by
 refine (bandplanref26_Cleared.calls tabL W rfl).mono ?_
 rintro r w' ⟨v, rfl, hR, hB'⟩
 obtain ⟨A, c, rfl, _, hC⟩ := Kd.R_reads hR
 obtain ⟨a, rfl, _⟩ := C_at hC 0 (by decide)
 exact ⟨a, c, rfl, hC, below_step hB hB', Kept.of_below hB' _⟩
theorem a_rblocks (i : Nat) (h : i ≤ 11) : Ans 29 #[.int .i64 (i : Int)] (.int .i64 (12 - (i : Int))) := fun w W hB => by
 have HB := Lib.hid hB
 have HI := Lib.hid h
 clear h hB
 go_enter Try.func29, Try.ntmps29
 go_wp2_with fail
 go_ret
 have hi := HI.out
 have e : wrap64 (12 - (i : Int)) = 12 - (i : Int) := by unfold wrap64; omega
 exact ⟨show Ending.returned (.int .i64 (wrap64 (12 - (i : Int)))) = _ by rw [e], HB.out, Kept.refl _ _⟩
end Go.Proofs.Ytenhigpeafaidaa.U
-- Th
namespace Go.Proofs.Ytenhigpeafaidaa.U
open Go Go.Proofs Go.RowKit Go.Maps Go.Shelf Go.Proofs.YtenhigpeafaidaaW.PrintWords Go.Proofs.YtenhigpeafaidaaW.PrintLast Go.Proofs.YtenhigpeafaidaaW.PrintMore Go.Proofs.Ytenhigpeafaidaa.Wire Go.Proofs.Ytenhigpeafaidaa.Q Go.Proofs.Ytenhigpeafaidaa.T
attribute [local go_sem] Oper.semAt_some
set_option linter.unusedVariables false
set_option linter.unusedSimpArgs false

/-- The law's own cells: the number of rounds, the answer. -/
def Hd2 (w W : World) (s : Int) : Prop := Below w.heap.size w W ∧ W.heap[w.heap.size]? = some (.cells #[.int .i64 s] 3 (0, 0)) ∧ W.heap[w.heap.size + 1]? = some (.cells #[.bool false] 4 (0, 0))
theorem Hd2.kept {w W W' : World} {s : Int} (h : Hd2 w W s) (hb : Below w.heap.size w W') (hk : Kept W W' (fun _ => False)) : Hd2 w W' s := ⟨hb, blk_kept h.2.1 hk id, blk_kept h.2.2 hk id⟩
theorem Hd2.alloc {w W : World} {s : Int} (h : Hd2 w W s) (o : Obj) : Hd2 w (W.alloc o) s := ⟨below_alloc' h.1 o, blk_alloc h.2.1 o, blk_alloc h.2.2 o⟩
theorem ix_at {n : Int} {i : Nat} (h : ixL n tabL 0 = (i : Int)) : n = tabL.getD i 0 := by
 have aux : ∀ (l : List Int) (k : Nat), ixL n l k = (i : Int) → k ≤ i ∧ n = l.getD (i - k) 0 := by
  intro l
  induction l with
  | nil => intro k h; unfold ixL at h; omega
  | cons x l ih =>
   intro k h
   unfold ixL at h
   by_cases hx : n = x
   ·
    rw [if_pos hx] at h
    obtain rfl : k = i := by omega
    exact ⟨Nat.le_refl _, by simp [hx]⟩
   ·
    rw [if_neg hx] at h
    obtain ⟨h1, h2⟩ := ih (k + 1) h
    exact ⟨by omega, by rw [h2, show i - k = (i - (k + 1)) + 1 by omega]; rfl⟩
 have := (aux tabL 0 h).2
 simpa using this
theorem wr_s : ∀ i : Nat, i < 10 → IntKind.i64.wrap ((i : Int) + 1) = ((i + 1 : Nat) : Int) := by decide
theorem blk_at : ∀ i, i < 11 → blk 11 (tabL.getD i 0) = 12 - (i : Int) := by decide
theorem nextV_at {n : Int} {i : Nat} (h : ixL n tabL 0 = (i : Int)) (hi : i < 11) : nextV n = if i = 10 then 0 else tabL.getD (i + 1) 0 := by
 unfold nextV
 rw [h, if_neg (by omega)]
 by_cases h10 : i = 10
 ·
  rw [if_pos h10, if_pos (by omega)]
 ·
  rw [if_neg h10, if_neg (by omega)]; simp
theorem nextE_at {n : Int} {i : Nat} (h : ixL n tabL 0 = (i : Int)) (hi : i < 11) : nextE n = if i = 10 then 9 else 0 := by
 unfold nextE
 rw [h, if_neg (by omega)]
 by_cases h10 : i = 10
 ·
  rw [if_pos h10, if_pos (by omega)]
 ·
  rw [if_neg h10, if_neg (by omega)]
/-- What the outer loop keeps: the law's cells, the table, the turn. -/
structure Rd (w W : World) (s : Int) (b g : Nat) (j : Int) : Prop where
 hd : Hd2 w W s
 tab : W.heap[b]? = some (.cells tabV 107 (0, 0))
 turn : W.heap[g]? = some (.cells #[.int .i64 j] 3 (0, 0))
 lb : w.heap.size + 1 < b
 lg : w.heap.size + 1 < g
theorem Rd.below {w W W' : World} {s j : Int} {b g n : Nat} (h : Rd w W s b g j) (k : Below n W W') (hb : b < n) (hg : g < n) : Rd w W' s b g j :=
 ⟨⟨h.hd.1.trans (k.mono (by have := h.lb; omega)), (k.block _ (by have := h.lb; omega)).trans h.hd.2.1, (k.block _ (by have := h.lb; omega)).trans h.hd.2.2⟩, (k.block _ hb).trans h.tab, (k.block _ hg).trans h.turn, h.lb, h.lg⟩
theorem Rd.alloc {w W : World} {s j : Int} {b g : Nat} (h : Rd w W s b g j) (o : Obj) : Rd w (W.alloc o) s b g j :=
 ⟨h.hd.alloc o, blk_alloc h.tab o, blk_alloc h.turn o, h.lb, h.lg⟩
theorem Rd.ltb {w W : World} {s j : Int} {b g : Nat} (h : Rd w W s b g j) : b < W.heap.size := (Array.getElem?_eq_some_iff.1 h.tab).1
theorem Rd.ltg {w W : World} {s j : Int} {b g : Nat} (h : Rd w W s b g j) : g < W.heap.size := (Array.getElem?_eq_some_iff.1 h.turn).1
theorem keepsFrom_of_below {B : Nat} {W W' : World} (h : Below W.heap.size W W') : KeepsFrom B W W' :=
 ⟨h.size, fun k o _ hk _ => (h.block k (Array.getElem?_eq_some_iff.1 hk).1).trans hk⟩
theorem name_tmps {P : Program} {c : Code} {Q : Exit → Act → World → Prop} {t : Array Value} {d : List Deferred} {w : World} (h : ∀ T0, T0 = t → c.wp P Q { tmps := T0, defers := d } w) : c.wp P Q { tmps := t, defers := d } w := h t rfl
theorem block_cut {P : Program} {id : Nat} {c : Code} {Q : Exit → Act → World → Prop} {a : Act} {w : World} (R : Act → World → Prop) (h1 : c.wp P (fun e a w => (e = .normal ∨ e = .exit id) ∧ R a w) a w) (h2 : ∀ a w, R a w → Q .normal a w) : (Code.block id c).wp P Q a w := by
 refine wp_block (Code.wp_mono (fun e a w h => ?_) h1)
 rcases h with ⟨rfl | rfl, h⟩
 ·
  exact h2 _ _ h
 ·
  simp only [Exit.inBlock, if_true]; exact h2 _ _ h
theorem ran_snoc {pre : List Nat} {x : Nat} (h : pre = List.range pre.length) (hx : x = pre.length) : pre ++ [x] = List.range (pre ++ [x]).length := by
 rw [List.length_append, List.length_singleton, List.range_succ, ← h, hx]
theorem ran_not {pre : List Nat} {x : Nat} (hx : x ≠ pre.length) : pre ++ [x] ≠ List.range (pre ++ [x]).length := by
 intro e
 rw [List.length_append, List.length_singleton, List.range_succ] at e
 have := List.append_inj_right' e rfl
 exact hx (by simpa using this)
theorem wr_c {m : Nat} (h : m < 11) : wrap64 ((m : Int) + 1) = ((m + 1 : Nat) : Int) := by unfold wrap64; omega
/-- What a range over the targets keeps between two rounds. -/
def RI (w W0 : World) (n₀ : Nat) (pre : List Nat) (W : World) : Prop := (pre = List.range pre.length ∧ Boxed W n₀ 3 (.int .i64 (pre.length : Int))) ∧ Below n₀ W0 W
/-- .. and where it is left. -/
def RX (j : Int) (W0 : World) (n₀ : Nat) (c : Code) (pre : List Nat) (W : World) : Prop := (c = .ret ∧ pre ≠ List.range pre.length) ∨ ((c = .exit 3 ∧ j = 0) ∧ Below n₀ W0 W)
theorem RI.own {w W0 : World} {n₀ B : Nat} (h : n₀ ≤ W0.heap.size) (hB : n₀ ≤ B) : OwnFrom B (RI w W0 n₀) :=
 OwnFrom.and (OwnFrom.and (ownFrom_pure _ (fun pre => pre = List.range pre.length)) (Own.from (boxed_own n₀ 3 (fun pre : List Nat => .int .i64 (pre.length : Int))) _)) (ownFrom_below h hB)
theorem RX.own {j : Int} {W0 : World} {n₀ B : Nat} (c : Code) (h : n₀ ≤ W0.heap.size) (hB : n₀ ≤ B) : OwnFrom B (RX j W0 n₀ c) := by
 rintro pre W W' row (h1 | h1) hg hr
 ·
  exact .inl h1
 ·
  exact .inr ⟨h1.1, ownFrom_below (β := Unit) h hB () W W' row h1.2 hg hr⟩
/-- The slots of a round. -/
def putT (T0 : Array Value) (x Bx : Nat) : Array Value := (((T0.setIfInBounds 95 (.int .i64 (x : Int))).setIfInBounds 96 (.agg #[.int .i64 (tabL.getD x 0)])).setIfInBounds 13 (.int .i64 (x : Int))).setIfInBounds 14 (.pointer (some ⟨Bx, 0, none⟩))
def RAx (T0 : Array Value) (n₀ x : Nat) (a' : Act) (W : World) : Prop := ∃ Bx, n₀ < Bx ∧ Boxed W Bx 34 (.int .i64 (tabL.getD x 0)) ∧ a' = { tmps := putT T0 x Bx, defers := [] }
theorem RAx.own {T0 : Array Value} {n₀ B : Nat} (x : Nat) (a' : Act) : OwnFrom B (fun (_ : Unit) W => RAx T0 n₀ x a' W) := by
 rintro u W W' row ⟨Bx, h1, h2, h3⟩ hg hr
 exact ⟨Bx, h1, Own.from (boxed_own Bx 34 (fun _ : Unit => .int .i64 (tabL.getD x 0))) B () W W' row h2 hg hr, h3⟩
set_option maxHeartbeats 8000000 in
set_option maxRecDepth 100000 in
theorem bandTargets_calls (w : World) (n s : Int) (hn : (Lit.int .i64 n).wf = true) : Calls Try.prog 6 #[.int .i64 n, .int .i64 s] w (fun r w' => r = .returned (.bool true) ∧ Below w.heap.size w w') := by
 have HN := Lib.hid hn
 clear hn
 refine (callsIn_wide (n := 4)).1 ?_
 refine callsIn_of_wp_marks Try.func6 rfl trivial ?_ rfl
 refine wpIn_wide.2 ?_
 simp only [Try.ntmps6, List.size_toArray, List.length_cons, List.length_nil, Nat.reduceAdd, Nat.reduceSub, Array.replicate_succ, Array.replicate_zero, List.push_toArray, List.append_toArray, List.nil_append, List.cons_append]
 have H1 := Lib.hid (show Hd2 w ((w.alloc (.cells #[.int .i64 s] 3)).alloc (.cells #[.bool false] 4)) s from ⟨below_alloc' (below_alloc' (Below.refl _ _) _) _, blk_alloc (blk_new _ _) _, by have := blk_new (w.alloc (.cells #[.int .i64 s] 3)) (.cells #[.bool false] 4); simpa using this⟩)
 go_wp2_with fail
 generalize (w.alloc (.cells #[.int .i64 s] 3)).alloc (.cells #[.bool false] 4) = w1 at H1 ⊢
 refine (a_to n w w1 H1.out.1).mono ?_
 rintro r w2 ⟨rfl, hB2, hK2⟩
 have H2 := Lib.hid (H1.out.kept hB2 hK2)
 clear hB2 hK2 H1
 go_wp2_with fail
 refine (a_at n w _ H2.out.1).mono ?_
 rintro r w3 ⟨rfl, hB3, hK3⟩
 have H3 := Lib.hid (H2.out.kept hB3 hK3)
 clear hB3 hK3 H2
 go_wp2_with fail
 refine (a_to n w _ H3.out.1).mono ?_
 rintro r w4 ⟨rfl, hB4, hK4⟩
 have H4 := Lib.hid (H3.out.kept hB4 hK4)
 clear hB4 hK4 H3
 go_wp2_with fail
 refine (a_blocks n HN.out w _ H4.out.1).mono ?_
 rintro r w5 ⟨rfl, hB5, hK5⟩
 have H5 := Lib.hid (H4.out.kept hB5 hK5)
 clear hB5 hK5 H4
 generalize hb : (if isTarget n = true then blk 11 n else 0) = vb
 generalize he : (if isTarget n = true then (0 : Int) else 2) = ve
 have HVB := Lib.hid hb
 have HVE := Lib.hid he
 clear hb he
 go_wp2_with fail
 refine (a_to n w _ H5.out.1).mono ?_
 rintro r w6 ⟨rfl, hB6, hK6⟩
 have H6 := Lib.hid (H5.out.kept hB6 hK6)
 clear hB6 hK6 H5
 go_wp2_with fail
 refine (a_next n w _ H6.out.1).mono ?_
 rintro r w7 ⟨rfl, hB7, hK7⟩
 have H7 := Lib.hid ((H6.out.kept hB7 hK7).alloc (.cells #[.int .i64 (nextV n)] 34))
 have HG7 := Lib.hid (blk_new w7 (.cells #[.int .i64 (nextV n)] 34))
 clear hB7 hK7 H6
 generalize hnv : nextV n = nv at H7 HG7 ⊢
 generalize hne : nextE n = ne
 generalize hix : ixL n tabL 0 = ix
 have HNV := Lib.hid hnv
 have HNE := Lib.hid hne
 have HIX := Lib.hid hix
 clear hnv hne hix
 go_upto_block 0 with fail
 generalize w7.alloc (.cells #[.int .i64 nv] 34) = w8 at H7 HG7 ⊢
 generalize w7.heap.size = g8 at HG7 ⊢
 go_cut [] from 30 to 86 (fun w' => Hd2 w w' s)
 case first =>
  cases ht : isTarget n with
  | false =>
   have hlt : ix < 0 := by rw [← HIX.out, ix_target, ht]; decide
   obtain rfl : ix = -1 := by
    rcases ixL_range n tabL 0 with h | ⟨i, h1, h2, h3⟩
    ·
     rw [← HIX.out]; exact h
    ·
     rw [← HIX.out, h1] at hlt; omega
   obtain rfl : vb = 0 := by rw [← HVB.out, ht]; rfl
   obtain rfl : ve = 2 := by rw [← HVE.out, ht]; rfl
   obtain rfl : nv = 0 := by rw [← HNV.out]; unfold nextV; rw [HIX.out]; rfl
   obtain rfl : ne = 2 := by rw [← HNE.out]; unfold nextE; rw [HIX.out]; rfl
   have HT := Lib.hid ht
   clear hlt ht HVB HVE HNV HNE HIX
   go_wp2_with fail
   refine (a_to n w _ H7.out.1).mono ?_
   rintro r w9 ⟨rfl, hB9, hK9⟩
   have H9 := Lib.hid (H7.out.kept hB9 hK9)
   have HG9 := Lib.hid (blk_kept HG7.out hK9 id)
   clear hB9 hK9 H7 HG7
   go_wp2_with fail
   refine (a_valid n HN.out w _ H9.out.1).mono ?_
   rintro r w10 ⟨rfl, hB10, hK10⟩
   have H10 := Lib.hid (H9.out.kept hB10 hK10)
   have HG10 := Lib.hid (blk_kept HG9.out hK10 id)
   clear hB10 hK10 H9 HG9
   rw [HT.out]
   go_wp2_with fail
   refine wp_region_noPanic ?_
   refine wp_region_held_drew (S := fun W => Kept w10 W (fun _ => False) ∧ Below w.heap.size w W) (by kernel_rfl) ⟨(Kept.refl _ _).drew, below_drew H10.out.1⟩ (fun hS => ?_)
   (refine wpAnyH_takeG (i := 0) (by kernel_rfl) (by kernel_rfl) (by kernel_rfl) (fun _ _ _ _ _ h => h) hS ?_; intro oi hoi; simp only [List.getElem?_toArray, List.getElem?_cons_succ, List.getElem?_cons_zero] at hoi; cases hoi; refine ⟨?_, by rfl, ?_, ?_⟩; rotate_left; (focus (intro wS hSw; skip; go_simp; (first | done | with_reducible rfl))); (try simp only [Act.put, List.setIfInBounds_toArray, List.set_cons_zero, List.set_cons_succ])); (refine wpAnyH_takeG (i := 1) (by kernel_rfl) (by kernel_rfl) (by kernel_rfl) (fun _ _ _ _ _ h => h) hS ?_; intro oi hoi; simp only [List.getElem?_toArray, List.getElem?_cons_succ, List.getElem?_cons_zero] at hoi; cases hoi; refine ⟨?_, by rfl, ?_, ?_⟩; rotate_left; (focus (intro wS hSw; skip; go_simp; (first | done | with_reducible rfl))); (try simp only [Act.put, List.setIfInBounds_toArray, List.set_cons_zero, List.set_cons_succ])); (refine wpAnyH_takeG (i := 2) (by kernel_rfl) (by kernel_rfl) (by kernel_rfl) (fun _ _ _ _ _ h => h) hS ?_; intro oi hoi; simp only [List.getElem?_toArray, List.getElem?_cons_succ, List.getElem?_cons_zero] at hoi; cases hoi; refine ⟨?_, by rfl, ?_, ?_⟩; rotate_left; (focus (intro wS hSw; skip; go_simp; (first | done | with_reducible rfl))); (try simp only [Act.put, List.setIfInBounds_toArray, List.set_cons_zero, List.set_cons_succ]))
   (refine wpAnyH_takeG (i := 3) (by kernel_rfl) (by kernel_rfl) (by kernel_rfl) (fun _ _ _ _ _ h => h) hS ?_; intro oi hoi; simp only [List.getElem?_toArray, List.getElem?_cons_succ, List.getElem?_cons_zero] at hoi; cases hoi; refine ⟨?_, by rfl, ?_, ?_⟩; rotate_left; (focus (intro wS hSw; have g0 := (blk_cell (blk_kept HG10.out hSw.1 id) 0).trans rfl; go_simp; (first | done | with_reducible rfl))); (try simp only [Act.put, List.setIfInBounds_toArray, List.set_cons_zero, List.set_cons_succ]))
   (refine wpAnyH_oneG (i := 4) (by kernel_rfl) ?_; intro oi hoi K' hK; simp only [List.getElem?_toArray, List.getElem?_cons_succ, List.getElem?_cons_zero] at hoi; cases hoi; go_simp; refine (a_to 0 w _ hS.2).mono ?_; rintro r w11 ⟨rfl, hB11, hK11⟩; have HB11 := Lib.hid hB11; have HK11 := Lib.hid (hS.1.then_ hK11 (fun _ h => h.elim)); clear hB11 hK11; go_wp2_with fail)
   (refine hK.out _ _ ?_ (fun hS => ?_); (focus (exact ⟨HK11.out, HB11.out⟩)); clear hK K'; (try simp only [Act.put, List.setIfInBounds_toArray, List.set_cons_zero, List.set_cons_succ]))
   (refine wpAnyH_takeG (i := 5) (by kernel_rfl) (by kernel_rfl) (by kernel_rfl) (fun _ _ _ _ _ h => h) hS ?_; intro oi hoi; simp only [List.getElem?_toArray, List.getElem?_cons_succ, List.getElem?_cons_zero] at hoi; cases hoi; refine ⟨?_, by rfl, ?_, ?_⟩; rotate_left; (focus (intro wS hSw; skip; go_simp; (first | done | with_reducible rfl))); (try simp only [Act.put, List.setIfInBounds_toArray, List.set_cons_zero, List.set_cons_succ])); (refine wpAnyH_takeG (i := 6) (by kernel_rfl) (by kernel_rfl) (by kernel_rfl) (fun _ _ _ _ _ h => h) hS ?_; intro oi hoi; simp only [List.getElem?_toArray, List.getElem?_cons_succ, List.getElem?_cons_zero] at hoi; cases hoi; refine ⟨?_, by rfl, ?_, ?_⟩; rotate_left; (focus (intro wS hSw; skip; go_simp; (first | done | with_reducible rfl))); (try simp only [Act.put, List.setIfInBounds_toArray, List.set_cons_zero, List.set_cons_succ])); (refine wpAnyH_takeG (i := 7) (by kernel_rfl) (by kernel_rfl) (by kernel_rfl) (fun _ _ _ _ _ h => h) hS ?_; intro oi hoi; simp only [List.getElem?_toArray, List.getElem?_cons_succ, List.getElem?_cons_zero] at hoi; cases hoi; refine ⟨?_, by rfl, ?_, ?_⟩; rotate_left; (focus (intro wS hSw; skip; go_simp; (first | done | with_reducible rfl))); (try simp only [Act.put, List.setIfInBounds_toArray, List.set_cons_zero, List.set_cons_succ])); (refine wpAnyH_takeG (i := 8) (by kernel_rfl) (by kernel_rfl) (by kernel_rfl) (fun _ _ _ _ _ h => h) hS ?_; intro oi hoi; simp only [List.getElem?_toArray, List.getElem?_cons_succ, List.getElem?_cons_zero] at hoi; cases hoi; refine ⟨?_, by rfl, ?_, ?_⟩; rotate_left; (focus (intro wS hSw; skip; go_simp; (first | done | with_reducible rfl))); (try simp only [Act.put, List.setIfInBounds_toArray, List.set_cons_zero, List.set_cons_succ])); (refine wpAnyH_takeG (i := 9) (by kernel_rfl) (by kernel_rfl) (by kernel_rfl) (fun _ _ _ _ _ h => h) hS ?_; intro oi hoi; simp only [List.getElem?_toArray, List.getElem?_cons_succ, List.getElem?_cons_zero] at hoi; cases hoi; refine ⟨?_, by rfl, ?_, ?_⟩; rotate_left; (focus (intro wS hSw; skip; go_simp; (first | done | with_reducible rfl))); (try simp only [Act.put, List.setIfInBounds_toArray, List.set_cons_zero, List.set_cons_succ])); (refine wpAnyH_takeG (i := 10) (by kernel_rfl) (by kernel_rfl) (by kernel_rfl) (fun _ _ _ _ _ h => h) hS ?_; intro oi hoi; simp only [List.getElem?_toArray, List.getElem?_cons_succ, List.getElem?_cons_zero] at hoi; cases hoi; refine ⟨?_, by rfl, ?_, ?_⟩; rotate_left; (focus (intro wS hSw; skip; go_simp; (first | done | with_reducible rfl))); (try simp only [Act.put, List.setIfInBounds_toArray, List.set_cons_zero, List.set_cons_succ])); (refine wpAnyH_takeG (i := 11) (by kernel_rfl) (by kernel_rfl) (by kernel_rfl) (fun _ _ _ _ _ h => h) hS ?_; intro oi hoi; simp only [List.getElem?_toArray, List.getElem?_cons_succ, List.getElem?_cons_zero] at hoi; cases hoi; refine ⟨?_, by rfl, ?_, ?_⟩; rotate_left; (focus (intro wS hSw; skip; go_simp; (first | done | with_reducible rfl))); (try simp only [Act.put, List.setIfInBounds_toArray, List.set_cons_zero, List.set_cons_succ])); (refine wpAnyH_takeG (i := 12) (by kernel_rfl) (by kernel_rfl) (by kernel_rfl) (fun _ _ _ _ _ h => h) hS ?_; intro oi hoi; simp only [List.getElem?_toArray, List.getElem?_cons_succ, List.getElem?_cons_zero] at hoi; cases hoi; refine ⟨?_, by rfl, ?_, ?_⟩; rotate_left; (focus (intro wS hSw; skip; go_simp; (first | done | with_reducible rfl))); (try simp only [Act.put, List.setIfInBounds_toArray, List.set_cons_zero, List.set_cons_succ])); (refine wpAnyH_takeG (i := 13) (by kernel_rfl) (by kernel_rfl) (by kernel_rfl) (fun _ _ _ _ _ h => h) hS ?_; intro oi hoi; simp only [List.getElem?_toArray, List.getElem?_cons_succ, List.getElem?_cons_zero] at hoi; cases hoi; refine ⟨?_, by rfl, ?_, ?_⟩; rotate_left; (focus (intro wS hSw; skip; go_simp; (first | done | with_reducible rfl))); (try simp only [Act.put, List.setIfInBounds_toArray, List.set_cons_zero, List.set_cons_succ])); (refine wpAnyH_takeG (i := 14) (by kernel_rfl) (by kernel_rfl) (by kernel_rfl) (fun _ _ _ _ _ h => h) hS ?_; intro oi hoi; simp only [List.getElem?_toArray, List.getElem?_cons_succ, List.getElem?_cons_zero] at hoi; cases hoi; refine ⟨?_, by rfl, ?_, ?_⟩; rotate_left; (focus (intro wS hSw; skip; go_simp; (first | done | with_reducible rfl))); (try simp only [Act.put, List.setIfInBounds_toArray, List.set_cons_zero, List.set_cons_succ]))
   refine wpAnyH_done (by kernel_rfl) ?_ _
   refine NoPanic.normal ?_
   have H11 := Lib.hid (H10.out.kept HB11.out HK11.out)
   clear HG10 HK11 HB11 hS H10
   go_wp2_with fail
   go_meet
   case rel => exact H11.out
  | true =>
   obtain ⟨i, hi, rfl⟩ : ∃ i : Nat, i < 11 ∧ ix = (i : Int) := by
    rcases ixL_range n tabL 0 with h | ⟨i, h1, h2, h3⟩
    ·
     have hx := ix_target n; rw [h, ht] at hx; simp at hx
    ·
     exact ⟨i, by simpa [tabL] using h3, by rw [← HIX.out]; exact h1⟩
   have hni : n = tabL.getD i 0 := ix_at HIX.out
   obtain rfl : vb = 12 - (i : Int) := by rw [← HVB.out, ht, if_pos rfl, hni]; exact blk_at i hi
   obtain rfl : ve = 0 := by rw [← HVE.out, ht]; rfl
   have hnv : nv = if i = 10 then 0 else tabL.getD (i + 1) 0 := by rw [← HNV.out]; exact nextV_at HIX.out hi
   have hne : ne = if i = 10 then 9 else 0 := by rw [← HNE.out]; exact nextE_at HIX.out hi
   have HNV2 := Lib.hid hnv
   have HNE2 := Lib.hid hne
   have HT := Lib.hid ht
   have HI := Lib.hid hi
   clear hni ht hi hnv hne HVB HVE HNV HNE HIX
   have q0 : decide ((i : Int) ≥ 0) = true := decide_eq_true (by omega)
   have q1 : decide ((i : Int) < 0) = false := decide_eq_false (by omega)
   go_wp2_with fail
   refine (a_to n w _ H7.out.1).mono ?_
   rintro r w9 ⟨rfl, hB9, hK9⟩
   have H9 := Lib.hid (H7.out.kept hB9 hK9)
   have HG9 := Lib.hid (blk_kept HG7.out hK9 id)
   clear hB9 hK9 H7 HG7
   go_wp2_with fail
   refine (a_valid n HN.out w _ H9.out.1).mono ?_
   rintro r w10 ⟨rfl, hB10, hK10⟩
   have H10 := Lib.hid (H9.out.kept hB10 hK10)
   have HG10 := Lib.hid (blk_kept HG9.out hK10 id)
   clear hB10 hK10 H9 HG9
   rw [HT.out]
   go_wp2_with fail
   refine (a_rblocks i (by have := HI.out; omega) w _ H10.out.1).mono ?_
   rintro r w11 ⟨rfl, hB11, hK11⟩
   have H11 := Lib.hid (H10.out.kept hB11 hK11)
   have HG11 := Lib.hid (blk_kept HG10.out hK11 id)
   clear hB11 hK11 H10 HG10
   by_cases hi10 : i = 10
   ·
    subst hi10
    obtain rfl : nv = 0 := HNV2.out
    obtain rfl : ne = 9 := HNE2.out
    clear HNV2 HNE2 q0 q1
    go_wp2_with fail
    refine wp_region_noPanic ?_
    refine wp_region_held_drew (S := fun W => Kept w11 W (fun _ => False) ∧ Below w.heap.size w W) (by kernel_rfl) ⟨(Kept.refl _ _).drew, below_drew H11.out.1⟩ (fun hS => ?_)
    (refine wpAnyH_takeG (i := 0) (by kernel_rfl) (by kernel_rfl) (by kernel_rfl) (fun _ _ _ _ _ h => h) hS ?_; intro oi hoi; simp only [List.getElem?_toArray, List.getElem?_cons_succ, List.getElem?_cons_zero] at hoi; cases hoi; refine ⟨?_, by rfl, ?_, ?_⟩; rotate_left; (focus (intro wS hSw; have g0 := (blk_cell (blk_kept HG11.out hSw.1 id) 0).trans rfl; go_simp; (first | done | with_reducible rfl))); (try simp only [Act.put, List.setIfInBounds_toArray, List.set_cons_zero, List.set_cons_succ]))
    (refine wpAnyH_oneG (i := 1) (by kernel_rfl) ?_; intro oi hoi K' hK; simp only [List.getElem?_toArray, List.getElem?_cons_succ, List.getElem?_cons_zero] at hoi; cases hoi; go_simp; refine (a_to 0 w _ hS.2).mono ?_; rintro r w12 ⟨rfl, hB12, hK12⟩; have HB12 := Lib.hid hB12; have HK12 := Lib.hid (hS.1.then_ hK12 (fun _ h => h.elim)); clear hB12 hK12; go_wp2_with fail)
    (refine hK.out _ _ ?_ (fun hS => ?_); (focus (exact ⟨HK12.out, HB12.out⟩)); clear hK K'; (try simp only [Act.put, List.setIfInBounds_toArray, List.set_cons_zero, List.set_cons_succ]))
    (refine wpAnyH_takeG (i := 2) (by kernel_rfl) (by kernel_rfl) (by kernel_rfl) (fun _ _ _ _ _ h => h) hS ?_; intro oi hoi; simp only [List.getElem?_toArray, List.getElem?_cons_succ, List.getElem?_cons_zero] at hoi; cases hoi; refine ⟨?_, by rfl, ?_, ?_⟩; rotate_left; (focus (intro wS hSw; skip; go_simp; (first | done | with_reducible rfl))); (try simp only [Act.put, List.setIfInBounds_toArray, List.set_cons_zero, List.set_cons_succ])); (refine wpAnyH_takeG (i := 3) (by kernel_rfl) (by kernel_rfl) (by kernel_rfl) (fun _ _ _ _ _ h => h) hS ?_; intro oi hoi; simp only [List.getElem?_toArray, List.getElem?_cons_succ, List.getElem?_cons_zero] at hoi; cases hoi; refine ⟨?_, by rfl, ?_, ?_⟩; rotate_left; (focus (intro wS hSw; skip; go_simp; (first | done | with_reducible rfl))); (try simp only [Act.put, List.setIfInBounds_toArray, List.set_cons_zero, List.set_cons_succ])); (refine wpAnyH_takeG (i := 4) (by kernel_rfl) (by kernel_rfl) (by kernel_rfl) (fun _ _ _ _ _ h => h) hS ?_; intro oi hoi; simp only [List.getElem?_toArray, List.getElem?_cons_succ, List.getElem?_cons_zero] at hoi; cases hoi; refine ⟨?_, by rfl, ?_, ?_⟩; rotate_left; (focus (intro wS hSw; skip; go_simp; (first | done | with_reducible rfl))); (try simp only [Act.put, List.setIfInBounds_toArray, List.set_cons_zero, List.set_cons_succ])); (refine wpAnyH_takeG (i := 5) (by kernel_rfl) (by kernel_rfl) (by kernel_rfl) (fun _ _ _ _ _ h => h) hS ?_; intro oi hoi; simp only [List.getElem?_toArray, List.getElem?_cons_succ, List.getElem?_cons_zero] at hoi; cases hoi; refine ⟨?_, by rfl, ?_, ?_⟩; rotate_left; (focus (intro wS hSw; skip; go_simp; (first | done | with_reducible rfl))); (try simp only [Act.put, List.setIfInBounds_toArray, List.set_cons_zero, List.set_cons_succ])); (refine wpAnyH_takeG (i := 6) (by kernel_rfl) (by kernel_rfl) (by kernel_rfl) (fun _ _ _ _ _ h => h) hS ?_; intro oi hoi; simp only [List.getElem?_toArray, List.getElem?_cons_succ, List.getElem?_cons_zero] at hoi; cases hoi; refine ⟨?_, by rfl, ?_, ?_⟩; rotate_left; (focus (intro wS hSw; skip; go_simp; (first | done | with_reducible rfl))); (try simp only [Act.put, List.setIfInBounds_toArray, List.set_cons_zero, List.set_cons_succ]))
    refine wpAnyH_done (by kernel_rfl) ?_ _
    refine NoPanic.normal ?_
    have H12 := Lib.hid (H11.out.kept HB12.out HK12.out)
    clear HG11 HK12 HB12 hS H11
    go_wp2_with fail
    go_meet
    case rel => exact H12.out
   ·
    have hnv : nv = tabL.getD (i + 1) 0 := by rw [HNV2.out, if_neg hi10]
    have hne : ne = 0 := by rw [HNE2.out, if_neg hi10]
    subst hne
    have HNV3 := Lib.hid hnv
    have q2 : ((i : Int) == 10) = false := by simp; omega
    have HI2 := Lib.hid (show i < 10 by have := HI.out; omega)
    clear hnv HNV2 HNE2 q0 q1 HI hi10
    go_wp2_with fail
    refine wp_region_noPanic ?_
    refine wp_region_held_drew (S := fun W => Kept w11 W (fun _ => False) ∧ Below w.heap.size w W) (by kernel_rfl) ⟨(Kept.refl _ _).drew, below_drew H11.out.1⟩ (fun hS => ?_)
    (refine wpAnyH_takeG (i := 0) (by kernel_rfl) (by kernel_rfl) (by kernel_rfl) (fun _ _ _ _ _ h => h) hS ?_; intro oi hoi; simp only [List.getElem?_toArray, List.getElem?_cons_succ, List.getElem?_cons_zero] at hoi; cases hoi; refine ⟨?_, by rfl, ?_, ?_⟩; rotate_left; (focus (intro wS hSw; skip; go_simp; (first | done | with_reducible rfl))); (try simp only [Act.put, List.setIfInBounds_toArray, List.set_cons_zero, List.set_cons_succ])); (refine wpAnyH_takeG (i := 1) (by kernel_rfl) (by kernel_rfl) (by kernel_rfl) (fun _ _ _ _ _ h => h) hS ?_; intro oi hoi; simp only [List.getElem?_toArray, List.getElem?_cons_succ, List.getElem?_cons_zero] at hoi; cases hoi; refine ⟨?_, by rfl, ?_, ?_⟩; rotate_left; (focus (intro wS hSw; skip; go_simp; (first | done | with_reducible rfl))); (try simp only [Act.put, List.setIfInBounds_toArray, List.set_cons_zero, List.set_cons_succ])); (refine wpAnyH_takeG (i := 2) (by kernel_rfl) (by kernel_rfl) (by kernel_rfl) (fun _ _ _ _ _ h => h) hS ?_; intro oi hoi; simp only [List.getElem?_toArray, List.getElem?_cons_succ, List.getElem?_cons_zero] at hoi; cases hoi; refine ⟨?_, by rfl, ?_, ?_⟩; rotate_left; (focus (intro wS hSw; skip; go_simp; (first | done | with_reducible rfl))); (try simp only [Act.put, List.setIfInBounds_toArray, List.set_cons_zero, List.set_cons_succ]))
    (refine wpAnyH_takeG (i := 3) (by kernel_rfl) (by kernel_rfl) (by kernel_rfl) (fun _ _ _ _ _ h => h) hS ?_; intro oi hoi; simp only [List.getElem?_toArray, List.getElem?_cons_succ, List.getElem?_cons_zero] at hoi; cases hoi; refine ⟨?_, by rfl, ?_, ?_⟩; rotate_left; (focus (intro wS hSw; have g0 := (blk_cell (blk_kept HG11.out hSw.1 id) 0).trans rfl; go_simp; (first | done | with_reducible rfl))); (try simp only [Act.put, List.setIfInBounds_toArray, List.set_cons_zero, List.set_cons_succ]))
    (refine wpAnyH_takeG (i := 5) (by kernel_rfl) (by kernel_rfl) (by kernel_rfl) (fun _ _ _ _ _ h => h) hS ?_; intro oi hoi; simp only [List.getElem?_toArray, List.getElem?_cons_succ, List.getElem?_cons_zero] at hoi; cases hoi; refine ⟨?_, by rfl, ?_, ?_⟩; rotate_left; (focus (intro wS hSw; skip; go_simp; (first | done | with_reducible rfl))); (try simp only [Act.put, List.setIfInBounds_toArray, List.set_cons_zero, List.set_cons_succ])); (refine wpAnyH_takeG (i := 6) (by kernel_rfl) (by kernel_rfl) (by kernel_rfl) (fun _ _ _ _ _ h => h) hS ?_; intro oi hoi; simp only [List.getElem?_toArray, List.getElem?_cons_succ, List.getElem?_cons_zero] at hoi; cases hoi; refine ⟨?_, by rfl, ?_, ?_⟩; rotate_left; (focus (intro wS hSw; skip; go_simp; (first | done | with_reducible rfl))); (try simp only [Act.put, List.setIfInBounds_toArray, List.set_cons_zero, List.set_cons_succ]))
    (refine wpAnyH_oneG (i := 4) (by kernel_rfl) ?_; intro oi hoi K' hK; simp only [List.getElem?_toArray, List.getElem?_cons_succ, List.getElem?_cons_zero] at hoi; cases hoi; go_simp; refine (a_cleared w _ hS.2).mono ?_; rintro r w12 ⟨Ac, cc, rfl, hC12, hB12, hK12⟩; have HB12 := Lib.hid hB12; have HC12 := Lib.hid hC12; have HK12 := Lib.hid (hS.1.then_ hK12 (fun _ h => h.elim)); clear hB12 hK12 hC12; go_wp2_with fail)
    (refine hK.out _ _ ?_ (fun hS => ?_); (focus (exact ⟨HK12.out, HB12.out⟩)); clear hK K'; (try simp only [Act.put, List.setIfInBounds_toArray, List.set_cons_zero, List.set_cons_succ]))
    refine wpAnyH_strong (S' := fun W => Kept w12 W (fun _ => False) ∧ Below w.heap.size w W) (fun W h => ⟨HK12.out.then_ h.1 (fun _ h => h.elim), h.2⟩) ?_
    obtain ⟨ad, hA, ei⟩ := C_at HC12.out (i + 1) (by have := HI2.out; show _ < 11; omega)
    cases hA
    clear ei
    have hS : Kept w12 w12 (fun _ => False) ∧ Below w.heap.size w w12 := ⟨Kept.refl _ _, HB12.out⟩
    have HW := Lib.hid (wr_s i HI2.out)
    (refine wpAnyH_takeG (i := 7) (by kernel_rfl) (by kernel_rfl) (by kernel_rfl) (fun _ _ _ _ _ h => h) hS ?_; intro oi hoi; simp only [List.getElem?_toArray, List.getElem?_cons_succ, List.getElem?_cons_zero] at hoi; cases hoi; refine ⟨?_, by rfl, ?_, ?_⟩; rotate_left; (focus (intro wS hSw; have hq := HW.out; rw [hq]; have hz : 0 ≤ (i : Int) + 1 ∧ (i : Int) + 1 < 11 := (by have := HI2.out; omega); go_simp; (first | done | with_reducible rfl))); (try simp only [Act.put, List.setIfInBounds_toArray, List.set_cons_zero, List.set_cons_succ]))
    (refine wpAnyH_takeG (i := 8) (by kernel_rfl) (by kernel_rfl) (by kernel_rfl) (fun _ _ _ _ _ h => h) hS ?_; intro oi hoi; simp only [List.getElem?_toArray, List.getElem?_cons_succ, List.getElem?_cons_zero] at hoi; cases hoi; refine ⟨?_, by rfl, ?_, ?_⟩; rotate_left; (focus (intro wS hSw; obtain ⟨ad, hA, ei⟩ := C_at (C_none HC12.out hSw.1) (i + 1) (by have := HI2.out; show _ < 11; omega); cases hA; rw [show Ac.add (i + 1) = ⟨Ac.block, Ac.off + (i + 1), none⟩ by simp [Addr.add]] at ei; go_simp; (first | done | with_reducible rfl))); (try simp only [Act.put, List.setIfInBounds_toArray, List.set_cons_zero, List.set_cons_succ]))
    (refine wpAnyH_oneG (i := 9) (by kernel_rfl) ?_; intro oi hoi K' hK; simp only [List.getElem?_toArray, List.getElem?_cons_succ, List.getElem?_cons_zero] at hoi; cases hoi; go_simp; refine (a_to _ w _ hS.2).mono ?_; rintro r w13 ⟨rfl, hB13, hK13⟩; have HB13 := Lib.hid hB13; have HK13 := Lib.hid (hS.1.then_ hK13 (fun _ h => h.elim)); clear hB13 hK13; go_wp2_with fail)
    (refine hK.out _ _ ?_ (fun hS => ?_); (focus (exact ⟨HK13.out, HB13.out⟩)); clear hK K'; (try simp only [Act.put, List.setIfInBounds_toArray, List.set_cons_zero, List.set_cons_succ]))
    obtain rfl : nv = tabL.getD (i + 1) 0 := HNV3.out
    (refine wpAnyH_takeG (i := 10) (by kernel_rfl) (by kernel_rfl) (by kernel_rfl) (fun _ _ _ _ _ h => h) hS ?_; intro oi hoi; simp only [List.getElem?_toArray, List.getElem?_cons_succ, List.getElem?_cons_zero] at hoi; cases hoi; refine ⟨?_, by rfl, ?_, ?_⟩; rotate_left; (focus (intro wS hSw; skip; go_simp; (first | done | with_reducible rfl))); (try simp only [Act.put, List.setIfInBounds_toArray, List.set_cons_zero, List.set_cons_succ])); (refine wpAnyH_takeG (i := 11) (by kernel_rfl) (by kernel_rfl) (by kernel_rfl) (fun _ _ _ _ _ h => h) hS ?_; intro oi hoi; simp only [List.getElem?_toArray, List.getElem?_cons_succ, List.getElem?_cons_zero] at hoi; cases hoi; refine ⟨?_, by rfl, ?_, ?_⟩; rotate_left; (focus (intro wS hSw; skip; go_simp; (first | done | with_reducible rfl))); (try simp only [Act.put, List.setIfInBounds_toArray, List.set_cons_zero, List.set_cons_succ])); (refine wpAnyH_takeG (i := 12) (by kernel_rfl) (by kernel_rfl) (by kernel_rfl) (fun _ _ _ _ _ h => h) hS ?_; intro oi hoi; simp only [List.getElem?_toArray, List.getElem?_cons_succ, List.getElem?_cons_zero] at hoi; cases hoi; refine ⟨?_, by rfl, ?_, ?_⟩; rotate_left; (focus (intro wS hSw; skip; go_simp; (first | done | with_reducible rfl))); (try simp only [Act.put, List.setIfInBounds_toArray, List.set_cons_zero, List.set_cons_succ]))
    refine wpAnyH_done (by kernel_rfl) ?_ _
    refine NoPanic.normal ?_
    have H13 := Lib.hid (H11.out.kept HB13.out (HK12.out.then_ HK13.out (fun _ h => h.elim)))
    clear HG11 HK12 HB12 HC12 HK13 HB13 hS H11
    go_wp2_with fail
    go_meet
    case rel => exact H13.out
 case rest =>
  have H9 := Lib.hid hcut
  clear hcut HNV HNE HIX HVB HVE H7 HG7
  go_wp2_with fail
  refine (targets_calls _ _ (Below.refl _ _)).mono ?_
  rintro r w10 ⟨b, rfl, hb, hT, hB10⟩
  have H10 := Lib.hid ((H9.out.kept (below_step H9.out.1 hB10) (Kept.of_below hB10 _)).alloc (.cells #[.int .i64 0] 3))
  have HT10 := Lib.hid (blk_alloc hT (.cells #[.int .i64 0] 3))
  have HB1 := Lib.hid (show w.heap.size + 1 < b by have h1 := H9.out.2.2; have := (Array.getElem?_eq_some_iff.1 h1).1; omega)
  have HG11 := Lib.hid (blk_new w10 (.cells #[.int .i64 0] 3))
  clear hb hT hB10 H9
  have hnf : ∀ W, (binOp .eql 64 (Value.func (Fn.func 56) #[] #[Value.pointer (some ⟨b, 0, none⟩)]) Value.nilFunc).run Try.prog W = .ok (.bool false) W := fun W => by kernel_rfl
  go_upto_block 1 with fail
  obtain ⟨w11, hw11⟩ : ∃ W, W = w10.alloc (.cells #[.int .i64 0] 3) := ⟨_, rfl⟩
  rw [← hw11] at H10 HT10 HG11 ⊢
  have HR := Lib.hid (show Rd w w11 s b w10.heap.size 0 from ⟨H10.out, HT10.out, HG11.out, HB1.out, by have h1 := H10.out.2.2; have h2 : w.heap.size + 1 < w11.heap.size := (Array.getElem?_eq_some_iff.1 h1).1; have h3 := HB1.out; have h4 : b < w11.heap.size := (Array.getElem?_eq_some_iff.1 HT10.out).1; have h5 : w11.heap.size = w10.heap.size + 1 := (by rw [hw11]; simp); omega⟩)
  clear hw11 H10 HT10 HG11 HB1 hnf
  generalize w10.heap.size = g11 at HR ⊢
  refine wp_block ?_
  refine wp_loop_rounds 3 ?_
  rw [rounds_succ]
  have hj := (blk_cell HR.out.turn 0).trans rfl
  have HRa := Lib.hid (HR.out.alloc (.cells #[.int .i64 0] 3))
  have HGx := Lib.hid (blk_new w11 (.cells #[.int .i64 0] 3))
  have HLB := Lib.hid HR.out.ltb
  have HLG := Lib.hid HR.out.ltg
  clear HR
  go_upto_block 3 with fail
  clear hj
  generalize hW0 : w11.alloc (.cells #[.int .i64 0] 3) = W0 at HRa HGx ⊢
  have HS0 := Lib.hid (show w11.heap.size < W0.heap.size by rw [← hW0]; simp)
  clear hW0
  generalize w11.heap.size = g12 at HGx HLB HLG HS0 ⊢
  refine name_tmps ?_
  intro T0 hT0
  refine block_cut (fun a W => ∃ D, W0.heap.size ≤ D ∧ a = { tmps := T0, defers := { target := .collected D, args := #[] } :: [] } ∧ Rd w W s b g11 0 ∧ W.heap[D]? = some (.deferred (some [])) ∧ True) ?_ ?_
  refine (wpIn_wide (n := 4)).1 ?_
  refine wpIn_rangeFunc_ownH rfl (by decide) (gf := 56) (lb := #[.pointer (some ⟨b, 0, none⟩)]) (by rw [hT0]; rfl) trivial (enters_of Try.func56 (by kernel_rfl) rfl)
   (targets_stops Fence.wide 3 trivial rfl (by decide) b g12 W0 HRa.out.ltb HLB.out HRa.out.tab) belowK_t (belowK_b (Nat.le_of_lt HS0.out)) (Below.refl _ _) (fun _ => rfl)
   (RI w W0 g12) (RX 0 W0 g12) (RI.own (Nat.le_of_lt HS0.out) (Nat.le_of_lt HS0.out)) (fun c => RX.own c (Nat.le_of_lt HS0.out) (Nat.le_of_lt HS0.out)) ⟨⟨rfl, HGx.out⟩, Below.refl _ _⟩
   (RAx T0 g12) (fun x a' => RAx.own x a') ?assign ?body ?don ?stop
  case assign =>
   intro l pre x W K hi hK
   have HLw := Lib.hid (show g12 < W.heap.size from hi.1.2.lt)
   have HBw := Lib.hid hi.2
   subst hT0
   gi_wp2
   exact hK _ _ ((KeepsOthers.alloc _ _).from _) ((Below.refl _ W).alloc (Nat.le_of_lt HLw.out) _) ⟨⟨hi.1.1, hi.1.2.alloc _⟩, HBw.out.alloc (by have := HBw.out.size; have := HS0.out; omega) _⟩ ⟨W.heap.size, HLw.out, Boxed.new W _ _, rfl⟩
  case body =>
   intro l pre x a' W hl hrec hI hAx hlen
   obtain ⟨Bx, hBx, hbox, rfl⟩ := hAx
   have HP := Lib.hid hI.1.1
   have HBX := Lib.hid hI.1.2
   have HRw := Lib.hid (HRa.out.below hI.2 HLB.out HLG.out)
   have HBw := Lib.hid hI.2
   have HB14 := Lib.hid hbox
   have HLT := Lib.hid hBx
   have HSW := Lib.hid hI.1.2.lt
   have HLX := Lib.hid hbox.lt
   have HLN := Lib.hid hlen
   clear hl hrec hI hBx hbox hlen
   subst hT0
   unfold putT
   simp only [List.setIfInBounds_toArray, List.set_cons_zero, List.set_cons_succ]
   refine wpIn_block ?_
   refine wpIn_seq_k ?_
   intro K1 hK1
   refine wpIn_seq_k ?_
   intro K2 hK2
   refine rf_region_held (S := fun W' => Below W.heap.size W W') (by kernel_rfl) (by kernel_rfl) (below_drew (show Below W.heap.size W W from Below.refl _ _)) (fun hS => ?_)
   by_cases hx : x = pre.length
   ·
    subst hx
    have hm := HLN.out
    have q1 : ((pre.length : Int) != (pre.length : Int)) = false := by simp
    have q2 : decide ((pre.length : Int) > 10) = false := decide_eq_false (by omega)
    have hw := wr_c hm
    have HM := Lib.hid hm
    have HW2 := Lib.hid hw
    clear hm hw
    (refine wpAnyH_takeG (i := 0) (by kernel_rfl) (by kernel_rfl) (by kernel_rfl) (fun _ _ _ _ _ h => h) hS ?_; intro oi hoi; simp only [List.getElem?_toArray, List.getElem?_cons_succ, List.getElem?_cons_zero] at hoi; cases hoi; refine ⟨?_, by rfl, ?_, ?_⟩; rotate_left; (focus (intro wS hSw; skip; go_simp; (first | done | with_reducible rfl))); (try simp only [Act.put, List.setIfInBounds_toArray, List.set_cons_zero, List.set_cons_succ]))
    (refine wpAnyH_takeG (i := 1) (by kernel_rfl) (by kernel_rfl) (by kernel_rfl) (fun _ _ _ _ _ h => h) hS ?_; intro oi hoi; simp only [List.getElem?_toArray, List.getElem?_cons_succ, List.getElem?_cons_zero] at hoi; cases hoi; refine ⟨?_, by rfl, ?_, ?_⟩; rotate_left; (focus (intro wS hSw; have g0 := (blk_cell (blk_below (g := g12) (o := (.cells #[.int .i64 (pre.length : Int)] 3)) HBX.out hSw) 0).trans rfl; go_simp; (first | done | with_reducible rfl))); (try simp only [Act.put, List.setIfInBounds_toArray, List.set_cons_zero, List.set_cons_succ]))
    (refine wpAnyH_takeG (i := 2) (by kernel_rfl) (by kernel_rfl) (by kernel_rfl) (fun _ _ _ _ _ h => h) hS ?_; intro oi hoi; simp only [List.getElem?_toArray, List.getElem?_cons_succ, List.getElem?_cons_zero] at hoi; cases hoi; refine ⟨?_, by rfl, ?_, ?_⟩; rotate_left; (focus (intro wS hSw; skip; go_simp; (first | done | with_reducible rfl))); (try simp only [Act.put, List.setIfInBounds_toArray, List.set_cons_zero, List.set_cons_succ])); (refine wpAnyH_takeG (i := 3) (by kernel_rfl) (by kernel_rfl) (by kernel_rfl) (fun _ _ _ _ _ h => h) hS ?_; intro oi hoi; simp only [List.getElem?_toArray, List.getElem?_cons_succ, List.getElem?_cons_zero] at hoi; cases hoi; refine ⟨?_, by rfl, ?_, ?_⟩; rotate_left; (focus (intro wS hSw; skip; go_simp; (first | done | with_reducible rfl))); (try simp only [Act.put, List.setIfInBounds_toArray, List.set_cons_zero, List.set_cons_succ]))
    (refine wpAnyH_takeG (i := 4) (by kernel_rfl) (by kernel_rfl) (by kernel_rfl) (fun _ _ _ _ _ h => h) hS ?_; intro oi hoi; simp only [List.getElem?_toArray, List.getElem?_cons_succ, List.getElem?_cons_zero] at hoi; cases hoi; refine ⟨?_, by rfl, ?_, ?_⟩; rotate_left; (focus (intro wS hSw; have g0 := (blk_cell (blk_below (g := g12) (o := (.cells #[.int .i64 (pre.length : Int)] 3)) HBX.out hSw) 0).trans rfl; go_simp; (first | done | with_reducible rfl))); (try simp only [Act.put, List.setIfInBounds_toArray, List.set_cons_zero, List.set_cons_succ]))
    (refine wpAnyH_takeG (i := 5) (by kernel_rfl) (by kernel_rfl) (by kernel_rfl) (fun _ _ _ _ _ h => h) hS ?_; intro oi hoi; simp only [List.getElem?_toArray, List.getElem?_cons_succ, List.getElem?_cons_zero] at hoi; cases hoi; refine ⟨?_, by rfl, ?_, ?_⟩; rotate_left; (focus (intro wS hSw; skip; go_simp; (first | done | with_reducible rfl))); (try simp only [Act.put, List.setIfInBounds_toArray, List.set_cons_zero, List.set_cons_succ])); (refine wpAnyH_takeG (i := 6) (by kernel_rfl) (by kernel_rfl) (by kernel_rfl) (fun _ _ _ _ _ h => h) hS ?_; intro oi hoi; simp only [List.getElem?_toArray, List.getElem?_cons_succ, List.getElem?_cons_zero] at hoi; cases hoi; refine ⟨?_, by rfl, ?_, ?_⟩; rotate_left; (focus (intro wS hSw; skip; go_simp; (first | done | with_reducible rfl))); (try simp only [Act.put, List.setIfInBounds_toArray, List.set_cons_zero, List.set_cons_succ])); (refine wpAnyH_takeG (i := 7) (by kernel_rfl) (by kernel_rfl) (by kernel_rfl) (fun _ _ _ _ _ h => h) hS ?_; intro oi hoi; simp only [List.getElem?_toArray, List.getElem?_cons_succ, List.getElem?_cons_zero] at hoi; cases hoi; refine ⟨?_, by rfl, ?_, ?_⟩; rotate_left; (focus (intro wS hSw; skip; go_simp; (first | done | with_reducible rfl))); (try simp only [Act.put, List.setIfInBounds_toArray, List.set_cons_zero, List.set_cons_succ]))
    (refine wpAnyH_takeG (i := 8) (by kernel_rfl) (by kernel_rfl) (by kernel_rfl) (fun _ _ _ _ _ h => h) hS ?_; intro oi hoi; simp only [List.getElem?_toArray, List.getElem?_cons_succ, List.getElem?_cons_zero] at hoi; cases hoi; refine ⟨?_, by rfl, ?_, ?_⟩; rotate_left; (focus (intro wS hSw; have g0 := (blk_cell (blk_below (g := Bx) (o := (.cells #[.int .i64 (tabL.getD pre.length 0)] 34)) HB14.out hSw) 0).trans rfl; go_simp; (first | done | with_reducible rfl))); (try simp only [Act.put, List.setIfInBounds_toArray, List.set_cons_zero, List.set_cons_succ]))
    (refine wpAnyH_takeG (i := 10) (by kernel_rfl) (by kernel_rfl) (by kernel_rfl) (fun _ _ _ _ _ h => h) hS ?_; intro oi hoi; simp only [List.getElem?_toArray, List.getElem?_cons_succ, List.getElem?_cons_zero] at hoi; cases hoi; refine ⟨?_, by rfl, ?_, ?_⟩; rotate_left; (focus (intro wS hSw; have g0 := (blk_cell (blk_below (g := g12) (o := (.cells #[.int .i64 (pre.length : Int)] 3)) HBX.out hSw) 0).trans rfl; go_simp; (first | done | with_reducible rfl))); (try simp only [Act.put, List.setIfInBounds_toArray, List.set_cons_zero, List.set_cons_succ]))
    (refine wpAnyH_oneG (i := 9) (by kernel_rfl) ?_; intro oi hoi K' hK; simp only [List.getElem?_toArray, List.getElem?_cons_succ, List.getElem?_cons_zero] at hoi; cases hoi; go_simp; refine (a_cleared W _ hS).mono ?_; rintro r w12 ⟨Ac, cc, rfl, hC12, hB12, hK12⟩; have HB12 := Lib.hid hB12; have HC12 := Lib.hid hC12; clear hB12 hK12 hC12; go_wp2_with fail)
    (refine hK.out _ _ ?_ (fun hS => ?_); (focus (exact HB12.out)); clear hK K'; (try simp only [Act.put, List.setIfInBounds_toArray, List.set_cons_zero, List.set_cons_succ]))
    refine wpAnyH_strong (S' := fun V => Below W.heap.size W V ∧ Kept w12 V (fun _ => False)) (fun V h => h.1) ?_
    have hS : Below W.heap.size W w12 ∧ Kept w12 w12 (fun _ => False) := ⟨HB12.out, Kept.refl _ _⟩
    (refine wpAnyH_takeG (i := 11) (by kernel_rfl) (by kernel_rfl) (by kernel_rfl) (fun _ _ _ _ _ h => h) hS ?_; intro oi hoi; simp only [List.getElem?_toArray, List.getElem?_cons_succ, List.getElem?_cons_zero] at hoi; cases hoi; refine ⟨?_, by rfl, ?_, ?_⟩; rotate_left; (focus (intro wS hSw; have hz : (pre.length : Int) < 11 := (by have := HM.out; omega); go_simp; (first | done | with_reducible rfl))); (try simp only [Act.put, List.setIfInBounds_toArray, List.set_cons_zero, List.set_cons_succ]))
    (refine wpAnyH_takeG (i := 12) (by kernel_rfl) (by kernel_rfl) (by kernel_rfl) (fun _ _ _ _ _ h => h) hS ?_; intro oi hoi; simp only [List.getElem?_toArray, List.getElem?_cons_succ, List.getElem?_cons_zero] at hoi; cases hoi; refine ⟨?_, by rfl, ?_, ?_⟩; rotate_left; (focus (intro wS hSw; obtain ⟨ad, hA, ei⟩ := C_at (C_none HC12.out hSw.2) pre.length HM.out; cases hA; go_simp; (first | done | with_reducible rfl))); (try simp only [Act.put, List.setIfInBounds_toArray, List.set_cons_zero, List.set_cons_succ]))
    (refine wpAnyH_oneG (i := 13) (by kernel_rfl) ?_; intro oi hoi K' hK; simp only [List.getElem?_toArray, List.getElem?_cons_succ, List.getElem?_cons_zero] at hoi; cases hoi; go_simp; refine (a_to _ W _ hS.1).mono ?_; rintro r w13 ⟨rfl, hB13, hK13⟩; have HB13 := Lib.hid hB13; have HK13 := Lib.hid (hS.2.then_ hK13 (fun _ h => h.elim)); clear hB13 hK13; go_wp2_with fail)
    (refine hK.out _ _ ?_ (fun hS => ?_); (focus (exact ⟨HB13.out, HK13.out⟩)); clear hK K'; (try simp only [Act.put, List.setIfInBounds_toArray, List.set_cons_zero, List.set_cons_succ]))
    (refine wpAnyH_takeG (i := 14) (by kernel_rfl) (by kernel_rfl) (by kernel_rfl) (fun _ _ _ _ _ h => h) hS ?_; intro oi hoi; simp only [List.getElem?_toArray, List.getElem?_cons_succ, List.getElem?_cons_zero] at hoi; cases hoi; refine ⟨?_, by rfl, ?_, ?_⟩; rotate_left; (focus (intro wS hSw; skip; go_simp; (first | done | with_reducible rfl))); (try simp only [Act.put, List.setIfInBounds_toArray, List.set_cons_zero, List.set_cons_succ])); (refine wpAnyH_takeG (i := 15) (by kernel_rfl) (by kernel_rfl) (by kernel_rfl) (fun _ _ _ _ _ h => h) hS ?_; intro oi hoi; simp only [List.getElem?_toArray, List.getElem?_cons_succ, List.getElem?_cons_zero] at hoi; cases hoi; refine ⟨?_, by rfl, ?_, ?_⟩; rotate_left; (focus (intro wS hSw; skip; go_simp; (first | done | with_reducible rfl))); (try simp only [Act.put, List.setIfInBounds_toArray, List.set_cons_zero, List.set_cons_succ]))
    refine wpAnyH_done (by kernel_rfl) ?_ _
    refine NoPO.normal (hK2 _ _ ?_)
    clear hK2 hS HB12 HC12 HK13 q1 q2
    refine wpIn_cond_false (by rfl) (wpIn_skip (hK1 _ _ ?_))
    clear hK1
    have HX13 := Lib.hid (show Boxed w13 g12 3 (.int .i64 (pre.length : Int)) from blk_below HBX.out HB13.out)
    have HR13 := Lib.hid (HRw.out.below HB13.out HRw.out.ltb HRw.out.ltg)
    have hw : wrap64 ((pre.length : Int) + 1) = (pre.length : Int) + 1 := by rw [HW2.out]; omega
    have c12 := HX13.out.cell
    have f12 := HX13.out.frozen
    have d12 := (HX13.out.set (.int .i64 ((pre.length : Int) + 1))).cell
    have d11 := (Boxed.other (show Boxed w13 g11 3 (.int .i64 0) from HR13.out.turn) (show g11 ≠ g12 by have := HLG.out; omega) (.int .i64 ((pre.length : Int) + 1))).cell
    have d3 := (Boxed.other (show Boxed w13 w.heap.size 3 (.int .i64 s) from HR13.out.hd.2.1) (show w.heap.size ≠ g12 by have := HLG.out; have := HR13.out.lg; omega) (.int .i64 ((pre.length : Int) + 1))).cell
    have HKF := Lib.hid (show KeepsFrom W0.heap.size W (w13.setCell ⟨g12, 0, none⟩ (.int .i64 ((pre.length : Int) + 1))) from (keepsFrom_of_below HB13.out).trans ((KeepsOthers.setCell _ _ _).from _))
    have HBK := Lib.hid (show Below g12 W (w13.setCell ⟨g12, 0, none⟩ (.int .i64 ((pre.length : Int) + 1))) from (HB13.out.mono (Nat.le_of_lt HSW.out)).trans ((Below.refl g12 w13).setCell (p := ⟨g12, 0, none⟩) (Nat.le_refl _) _))
    have HI2 := Lib.hid (show RI w W0 g12 (pre ++ [pre.length]) (w13.setCell ⟨g12, 0, none⟩ (.int .i64 ((pre.length : Int) + 1))) from ⟨⟨ran_snoc HP.out rfl, by rw [List.length_append, List.length_singleton, show ((pre.length + 1 : Nat) : Int) = (pre.length : Int) + 1 by omega]; exact HX13.out.set _⟩, HBw.out.trans HBK.out⟩)
    clear HX13 HR13 HW2
    by_cases hs : (pre.length : Int) + 1 ≥ s
    ·
     have hq : decide ((pre.length : Int) + 1 ≥ s) = true := decide_eq_true hs
     clear hs
     gi_wp2
     exact show KeepsFrom _ _ _ ∧ RX _ _ _ _ _ _ from ⟨HKF.out, .inr ⟨⟨rfl, rfl⟩, HBw.out.trans HBK.out⟩⟩
    ·
     have hq : decide ((pre.length : Int) + 1 ≥ s) = false := decide_eq_false hs
     clear hs
     gi_wp2
     exact show KeepsFrom _ _ _ ∧ Below _ _ _ ∧ RI _ _ _ _ _ from ⟨HKF.out, HBK.out, HI2.out⟩
   ·
    have HX := Lib.hid hx
    have hne : ((x : Int) != (pre.length : Int)) = true := bne_iff_ne.mpr (by omega)
    clear hx
    (refine wpAnyH_takeG (i := 0) (by kernel_rfl) (by kernel_rfl) (by kernel_rfl) (fun _ _ _ _ _ h => h) hS ?_; intro oi hoi; simp only [List.getElem?_toArray, List.getElem?_cons_succ, List.getElem?_cons_zero] at hoi; cases hoi; refine ⟨?_, by rfl, ?_, ?_⟩; rotate_left; (focus (intro wS hSw; skip; go_simp; (first | done | with_reducible rfl))); (try simp only [Act.put, List.setIfInBounds_toArray, List.set_cons_zero, List.set_cons_succ]))
    (refine wpAnyH_takeG (i := 1) (by kernel_rfl) (by kernel_rfl) (by kernel_rfl) (fun _ _ _ _ _ h => h) hS ?_; intro oi hoi; simp only [List.getElem?_toArray, List.getElem?_cons_succ, List.getElem?_cons_zero] at hoi; cases hoi; refine ⟨?_, by rfl, ?_, ?_⟩; rotate_left; (focus (intro wS hSw; have g0 := (blk_cell (blk_below (g := g12) (o := (.cells #[.int .i64 (pre.length : Int)] 3)) HBX.out hSw) 0).trans rfl; go_simp; (first | done | with_reducible rfl))); (try simp only [Act.put, List.setIfInBounds_toArray, List.set_cons_zero, List.set_cons_succ]))
    (refine wpAnyH_takeG (i := 2) (by kernel_rfl) (by kernel_rfl) (by kernel_rfl) (fun _ _ _ _ _ h => h) hS ?_; intro oi hoi; simp only [List.getElem?_toArray, List.getElem?_cons_succ, List.getElem?_cons_zero] at hoi; cases hoi; refine ⟨?_, by rfl, ?_, ?_⟩; rotate_left; (focus (intro wS hSw; skip; go_simp; (first | done | with_reducible rfl))); (try simp only [Act.put, List.setIfInBounds_toArray, List.set_cons_zero, List.set_cons_succ])); (refine wpAnyH_takeG (i := 3) (by kernel_rfl) (by kernel_rfl) (by kernel_rfl) (fun _ _ _ _ _ h => h) hS ?_; intro oi hoi; simp only [List.getElem?_toArray, List.getElem?_cons_succ, List.getElem?_cons_zero] at hoi; cases hoi; refine ⟨?_, by rfl, ?_, ?_⟩; rotate_left; (focus (intro wS hSw; skip; go_simp; (first | done | with_reducible rfl))); (try simp only [Act.put, List.setIfInBounds_toArray, List.set_cons_zero, List.set_cons_succ])); (refine wpAnyH_offG (i := 4) (by kernel_rfl) (by kernel_rfl) (by kernel_rfl) (fun _ _ _ _ _ h => h) hS ?_; intro oi hoi; simp only [List.getElem?_toArray, List.getElem?_cons_succ, List.getElem?_cons_zero] at hoi; cases hoi; refine ⟨by rfl, ?_⟩; (try simp only [Act.put, List.setIfInBounds_toArray, List.set_cons_zero, List.set_cons_succ])); (refine wpAnyH_offG (i := 5) (by kernel_rfl) (by kernel_rfl) (by kernel_rfl) (fun _ _ _ _ _ h => h) hS ?_; intro oi hoi; simp only [List.getElem?_toArray, List.getElem?_cons_succ, List.getElem?_cons_zero] at hoi; cases hoi; refine ⟨by rfl, ?_⟩; (try simp only [Act.put, List.setIfInBounds_toArray, List.set_cons_zero, List.set_cons_succ])); (refine wpAnyH_takeG (i := 6) (by kernel_rfl) (by kernel_rfl) (by kernel_rfl) (fun _ _ _ _ _ h => h) hS ?_; intro oi hoi; simp only [List.getElem?_toArray, List.getElem?_cons_succ, List.getElem?_cons_zero] at hoi; cases hoi; refine ⟨?_, by rfl, ?_, ?_⟩; rotate_left; (focus (intro wS hSw; skip; go_simp; (first | done | with_reducible rfl))); (try simp only [Act.put, List.setIfInBounds_toArray, List.set_cons_zero, List.set_cons_succ])); (refine wpAnyH_takeG (i := 7) (by kernel_rfl) (by kernel_rfl) (by kernel_rfl) (fun _ _ _ _ _ h => h) hS ?_; intro oi hoi; simp only [List.getElem?_toArray, List.getElem?_cons_succ, List.getElem?_cons_zero] at hoi; cases hoi; refine ⟨?_, by rfl, ?_, ?_⟩; rotate_left; (focus (intro wS hSw; skip; go_simp; (first | done | with_reducible rfl))); (try simp only [Act.put, List.setIfInBounds_toArray, List.set_cons_zero, List.set_cons_succ])); (refine wpAnyH_offG (i := 8) (by kernel_rfl) (by kernel_rfl) (by kernel_rfl) (fun _ _ _ _ _ h => h) hS ?_; intro oi hoi; simp only [List.getElem?_toArray, List.getElem?_cons_succ, List.getElem?_cons_zero] at hoi; cases hoi; refine ⟨by rfl, ?_⟩; (try simp only [Act.put, List.setIfInBounds_toArray, List.set_cons_zero, List.set_cons_succ])); (refine wpAnyH_offG (i := 9) (by kernel_rfl) (by kernel_rfl) (by kernel_rfl) (fun _ _ _ _ _ h => h) hS ?_; intro oi hoi; simp only [List.getElem?_toArray, List.getElem?_cons_succ, List.getElem?_cons_zero] at hoi; cases hoi; refine ⟨by rfl, ?_⟩; (try simp only [Act.put, List.setIfInBounds_toArray, List.set_cons_zero, List.set_cons_succ])); (refine wpAnyH_offG (i := 10) (by kernel_rfl) (by kernel_rfl) (by kernel_rfl) (fun _ _ _ _ _ h => h) hS ?_; intro oi hoi; simp only [List.getElem?_toArray, List.getElem?_cons_succ, List.getElem?_cons_zero] at hoi; cases hoi; refine ⟨by rfl, ?_⟩; (try simp only [Act.put, List.setIfInBounds_toArray, List.set_cons_zero, List.set_cons_succ])); (refine wpAnyH_offG (i := 11) (by kernel_rfl) (by kernel_rfl) (by kernel_rfl) (fun _ _ _ _ _ h => h) hS ?_; intro oi hoi; simp only [List.getElem?_toArray, List.getElem?_cons_succ, List.getElem?_cons_zero] at hoi; cases hoi; refine ⟨by rfl, ?_⟩; (try simp only [Act.put, List.setIfInBounds_toArray, List.set_cons_zero, List.set_cons_succ])); (refine wpAnyH_offG (i := 12) (by kernel_rfl) (by kernel_rfl) (by kernel_rfl) (fun _ _ _ _ _ h => h) hS ?_; intro oi hoi; simp only [List.getElem?_toArray, List.getElem?_cons_succ, List.getElem?_cons_zero] at hoi; cases hoi; refine ⟨by rfl, ?_⟩; (try simp only [Act.put, List.setIfInBounds_toArray, List.set_cons_zero, List.set_cons_succ])); (refine wpAnyH_offG (i := 13) (by kernel_rfl) (by kernel_rfl) (by kernel_rfl) (fun _ _ _ _ _ h => h) hS ?_; intro oi hoi; simp only [List.getElem?_toArray, List.getElem?_cons_succ, List.getElem?_cons_zero] at hoi; cases hoi; refine ⟨by rfl, ?_⟩; (try simp only [Act.put, List.setIfInBounds_toArray, List.set_cons_zero, List.set_cons_succ])); (refine wpAnyH_offG (i := 14) (by kernel_rfl) (by kernel_rfl) (by kernel_rfl) (fun _ _ _ _ _ h => h) hS ?_; intro oi hoi; simp only [List.getElem?_toArray, List.getElem?_cons_succ, List.getElem?_cons_zero] at hoi; cases hoi; refine ⟨by rfl, ?_⟩; (try simp only [Act.put, List.setIfInBounds_toArray, List.set_cons_zero, List.set_cons_succ])); (refine wpAnyH_takeG (i := 15) (by kernel_rfl) (by kernel_rfl) (by kernel_rfl) (fun _ _ _ _ _ h => h) hS ?_; intro oi hoi; simp only [List.getElem?_toArray, List.getElem?_cons_succ, List.getElem?_cons_zero] at hoi; cases hoi; refine ⟨?_, by rfl, ?_, ?_⟩; rotate_left; (focus (intro wS hSw; skip; go_simp; (first | done | with_reducible rfl))); (try simp only [Act.put, List.setIfInBounds_toArray, List.set_cons_zero, List.set_cons_succ]))
    refine wpAnyH_done (by kernel_rfl) ?_ _
    refine NoPO.normal (hK2 _ _ ?_)
    have ez := (blk_cell HRw.out.hd.2.2 0).trans rfl
    have ef := blk_frozen HRw.out.hd.2.2 0
    clear hK2 hne
    gi_wp2
    exact show KeepsFrom _ _ _ ∧ RX _ _ _ _ _ _ from ⟨((KeepsOthers.setCell _ _ _).trans (.drew _)).from _, .inl ⟨rfl, ran_not HX.out⟩⟩
  case don =>
   rintro D xs W hD rfl hI hK
   exact ⟨.inl rfl, D, hD, rfl, HRa.out.below hI.2 HLB.out HLG.out, hK, trivial⟩
  case stop =>
   rintro D c pre W hD ⟨k, hk, rfl⟩ (⟨rfl, hne⟩ | ⟨⟨rfl, hj⟩, hB⟩) hK
   ·
    exact absurd (by simp) hne
   ·
    exact wpIn_exit ⟨.inr rfl, D, hD, rfl, HRa.out.below hB HLB.out HLG.out, hK, trivial⟩
  rintro a W ⟨D0, hD, rfl, hR, hK, hE⟩
  have HD0 := Lib.hid hK
  have HR := Lib.hid hR
  have HE0 := Lib.hid hE
  have HDL0 := Lib.hid hD
  have HDY := Lib.hid (show w.heap.size ≤ D0 by have := HLB.out; have := HRa.out.lb; have := HS0.out; omega)
  have hj := (blk_cell hR.turn 0).trans rfl
  clear hK hR hE hD
  subst hT0
  go_wp2_with fail
  have HRn := Lib.hid (show Rd w (W.alloc (.cells #[.int .i64 1] 3)) s b W.heap.size 1 from ⟨HR.out.hd.alloc _, blk_alloc HR.out.tab _, blk_new W _, HR.out.lb, by have := HR.out.lb; have := HR.out.ltb; omega⟩)
  have HDn := Lib.hid (blk_alloc HD0.out (.cells #[.int .i64 1] 3))
  clear HR HD0 hj HE0 HDL0 HRa HGx HLB HLG HS0
  generalize W.alloc (.cells #[.int .i64 1] 3) = w12 at HRn HDn ⊢
  generalize W.heap.size = g21 at HRn ⊢
  have HR := HRn
  have HD0 := HDn
  clear HRn HDn

  rw [rounds_succ]
  have hj := (blk_cell HR.out.turn 0).trans rfl
  have HRa := Lib.hid (HR.out.alloc (.cells #[.int .i64 0] 3))
  have HGx := Lib.hid (blk_new w12 (.cells #[.int .i64 0] 3))
  have HLB := Lib.hid HR.out.ltb
  have HLG := Lib.hid HR.out.ltg
  clear HR
  have HDW := Lib.hid (blk_alloc HD0.out (.cells #[.int .i64 0] 3))
  have HDG := Lib.hid (show D0 < w12.heap.size from (Array.getElem?_eq_some_iff.1 HD0.out).1)
  clear HD0
  go_upto_block 3 with fail
  clear hj
  generalize hW0 : w12.alloc (.cells #[.int .i64 0] 3) = W0 at HRa HGx HDW ⊢
  have HS0 := Lib.hid (show w12.heap.size < W0.heap.size by rw [← hW0]; simp)
  clear hW0
  generalize w12.heap.size = g12 at HGx HLB HLG HS0 HDG ⊢
  refine name_tmps ?_
  intro T0 hT0
  refine block_cut (fun a W => ∃ D, W0.heap.size ≤ D ∧ a = { tmps := T0, defers := { target := .collected D, args := #[] } :: [{ target := .collected D0, args := #[] }] } ∧ Rd w W s b g21 1 ∧ W.heap[D]? = some (.deferred (some [])) ∧ (Boxed W g12 3 (.int .i64 11) ∧ W.heap[D0]? = some (.deferred (some [])))) ?_ ?_
  refine (wpIn_wide (n := 4)).1 ?_
  refine wpIn_rangeFunc_ownH rfl (by decide) (gf := 56) (lb := #[.pointer (some ⟨b, 0, none⟩)]) (by rw [hT0]; rfl) trivial (enters_of Try.func56 (by kernel_rfl) rfl)
   (targets_stops Fence.wide 3 trivial rfl (by decide) b g12 W0 HRa.out.ltb HLB.out HRa.out.tab) belowK_t (belowK_b (Nat.le_of_lt HS0.out)) (Below.refl _ _) (fun _ => rfl)
   (RI w W0 g12) (RX 1 W0 g12) (RI.own (Nat.le_of_lt HS0.out) (Nat.le_of_lt HS0.out)) (fun c => RX.own c (Nat.le_of_lt HS0.out) (Nat.le_of_lt HS0.out)) ⟨⟨rfl, HGx.out⟩, Below.refl _ _⟩
   (RAx T0 g12) (fun x a' => RAx.own x a') ?assign ?body ?don ?stop
  case assign =>
   intro l pre x W K hi hK
   have HLw := Lib.hid (show g12 < W.heap.size from hi.1.2.lt)
   have HBw := Lib.hid hi.2
   subst hT0
   gi_wp2
   exact hK _ _ ((KeepsOthers.alloc _ _).from _) ((Below.refl _ W).alloc (Nat.le_of_lt HLw.out) _) ⟨⟨hi.1.1, hi.1.2.alloc _⟩, HBw.out.alloc (by have := HBw.out.size; have := HS0.out; omega) _⟩ ⟨W.heap.size, HLw.out, Boxed.new W _ _, rfl⟩
  case body =>
   intro l pre x a' W hl hrec hI hAx hlen
   obtain ⟨Bx, hBx, hbox, rfl⟩ := hAx
   have HP := Lib.hid hI.1.1
   have HBX := Lib.hid hI.1.2
   have HRw := Lib.hid (HRa.out.below hI.2 HLB.out HLG.out)
   have HBw := Lib.hid hI.2
   have HB14 := Lib.hid hbox
   have HLT := Lib.hid hBx
   have HSW := Lib.hid hI.1.2.lt
   have HLX := Lib.hid hbox.lt
   have HLN := Lib.hid hlen
   clear hl hrec hI hBx hbox hlen
   subst hT0
   unfold putT
   simp only [List.setIfInBounds_toArray, List.set_cons_zero, List.set_cons_succ]
   refine wpIn_block ?_
   refine wpIn_seq_k ?_
   intro K1 hK1
   refine wpIn_seq_k ?_
   intro K2 hK2
   refine rf_region_held (S := fun W' => Below W.heap.size W W') (by kernel_rfl) (by kernel_rfl) (below_drew (show Below W.heap.size W W from Below.refl _ _)) (fun hS => ?_)
   by_cases hx : x = pre.length
   ·
    subst hx
    have hm := HLN.out
    have q1 : ((pre.length : Int) != (pre.length : Int)) = false := by simp
    have q2 : decide ((pre.length : Int) > 10) = false := decide_eq_false (by omega)
    have hw := wr_c hm
    have HM := Lib.hid hm
    have HW2 := Lib.hid hw
    clear hm hw
    (refine wpAnyH_takeG (i := 0) (by kernel_rfl) (by kernel_rfl) (by kernel_rfl) (fun _ _ _ _ _ h => h) hS ?_; intro oi hoi; simp only [List.getElem?_toArray, List.getElem?_cons_succ, List.getElem?_cons_zero] at hoi; cases hoi; refine ⟨?_, by rfl, ?_, ?_⟩; rotate_left; (focus (intro wS hSw; skip; go_simp; (first | done | with_reducible rfl))); (try simp only [Act.put, List.setIfInBounds_toArray, List.set_cons_zero, List.set_cons_succ]))
    (refine wpAnyH_takeG (i := 1) (by kernel_rfl) (by kernel_rfl) (by kernel_rfl) (fun _ _ _ _ _ h => h) hS ?_; intro oi hoi; simp only [List.getElem?_toArray, List.getElem?_cons_succ, List.getElem?_cons_zero] at hoi; cases hoi; refine ⟨?_, by rfl, ?_, ?_⟩; rotate_left; (focus (intro wS hSw; have g0 := (blk_cell (blk_below (g := g12) (o := (.cells #[.int .i64 (pre.length : Int)] 3)) HBX.out hSw) 0).trans rfl; go_simp; (first | done | with_reducible rfl))); (try simp only [Act.put, List.setIfInBounds_toArray, List.set_cons_zero, List.set_cons_succ]))
    (refine wpAnyH_takeG (i := 2) (by kernel_rfl) (by kernel_rfl) (by kernel_rfl) (fun _ _ _ _ _ h => h) hS ?_; intro oi hoi; simp only [List.getElem?_toArray, List.getElem?_cons_succ, List.getElem?_cons_zero] at hoi; cases hoi; refine ⟨?_, by rfl, ?_, ?_⟩; rotate_left; (focus (intro wS hSw; skip; go_simp; (first | done | with_reducible rfl))); (try simp only [Act.put, List.setIfInBounds_toArray, List.set_cons_zero, List.set_cons_succ])); (refine wpAnyH_takeG (i := 3) (by kernel_rfl) (by kernel_rfl) (by kernel_rfl) (fun _ _ _ _ _ h => h) hS ?_; intro oi hoi; simp only [List.getElem?_toArray, List.getElem?_cons_succ, List.getElem?_cons_zero] at hoi; cases hoi; refine ⟨?_, by rfl, ?_, ?_⟩; rotate_left; (focus (intro wS hSw; skip; go_simp; (first | done | with_reducible rfl))); (try simp only [Act.put, List.setIfInBounds_toArray, List.set_cons_zero, List.set_cons_succ]))
    (refine wpAnyH_takeG (i := 4) (by kernel_rfl) (by kernel_rfl) (by kernel_rfl) (fun _ _ _ _ _ h => h) hS ?_; intro oi hoi; simp only [List.getElem?_toArray, List.getElem?_cons_succ, List.getElem?_cons_zero] at hoi; cases hoi; refine ⟨?_, by rfl, ?_, ?_⟩; rotate_left; (focus (intro wS hSw; have g0 := (blk_cell (blk_below (g := g12) (o := (.cells #[.int .i64 (pre.length : Int)] 3)) HBX.out hSw) 0).trans rfl; go_simp; (first | done | with_reducible rfl))); (try simp only [Act.put, List.setIfInBounds_toArray, List.set_cons_zero, List.set_cons_succ]))
    (refine wpAnyH_takeG (i := 5) (by kernel_rfl) (by kernel_rfl) (by kernel_rfl) (fun _ _ _ _ _ h => h) hS ?_; intro oi hoi; simp only [List.getElem?_toArray, List.getElem?_cons_succ, List.getElem?_cons_zero] at hoi; cases hoi; refine ⟨?_, by rfl, ?_, ?_⟩; rotate_left; (focus (intro wS hSw; skip; go_simp; (first | done | with_reducible rfl))); (try simp only [Act.put, List.setIfInBounds_toArray, List.set_cons_zero, List.set_cons_succ])); (refine wpAnyH_takeG (i := 6) (by kernel_rfl) (by kernel_rfl) (by kernel_rfl) (fun _ _ _ _ _ h => h) hS ?_; intro oi hoi; simp only [List.getElem?_toArray, List.getElem?_cons_succ, List.getElem?_cons_zero] at hoi; cases hoi; refine ⟨?_, by rfl, ?_, ?_⟩; rotate_left; (focus (intro wS hSw; skip; go_simp; (first | done | with_reducible rfl))); (try simp only [Act.put, List.setIfInBounds_toArray, List.set_cons_zero, List.set_cons_succ])); (refine wpAnyH_takeG (i := 7) (by kernel_rfl) (by kernel_rfl) (by kernel_rfl) (fun _ _ _ _ _ h => h) hS ?_; intro oi hoi; simp only [List.getElem?_toArray, List.getElem?_cons_succ, List.getElem?_cons_zero] at hoi; cases hoi; refine ⟨?_, by rfl, ?_, ?_⟩; rotate_left; (focus (intro wS hSw; skip; go_simp; (first | done | with_reducible rfl))); (try simp only [Act.put, List.setIfInBounds_toArray, List.set_cons_zero, List.set_cons_succ]))
    (refine wpAnyH_takeG (i := 8) (by kernel_rfl) (by kernel_rfl) (by kernel_rfl) (fun _ _ _ _ _ h => h) hS ?_; intro oi hoi; simp only [List.getElem?_toArray, List.getElem?_cons_succ, List.getElem?_cons_zero] at hoi; cases hoi; refine ⟨?_, by rfl, ?_, ?_⟩; rotate_left; (focus (intro wS hSw; have g0 := (blk_cell (blk_below (g := Bx) (o := (.cells #[.int .i64 (tabL.getD pre.length 0)] 34)) HB14.out hSw) 0).trans rfl; go_simp; (first | done | with_reducible rfl))); (try simp only [Act.put, List.setIfInBounds_toArray, List.set_cons_zero, List.set_cons_succ]))
    (refine wpAnyH_takeG (i := 10) (by kernel_rfl) (by kernel_rfl) (by kernel_rfl) (fun _ _ _ _ _ h => h) hS ?_; intro oi hoi; simp only [List.getElem?_toArray, List.getElem?_cons_succ, List.getElem?_cons_zero] at hoi; cases hoi; refine ⟨?_, by rfl, ?_, ?_⟩; rotate_left; (focus (intro wS hSw; have g0 := (blk_cell (blk_below (g := g12) (o := (.cells #[.int .i64 (pre.length : Int)] 3)) HBX.out hSw) 0).trans rfl; go_simp; (first | done | with_reducible rfl))); (try simp only [Act.put, List.setIfInBounds_toArray, List.set_cons_zero, List.set_cons_succ]))
    (refine wpAnyH_oneG (i := 9) (by kernel_rfl) ?_; intro oi hoi K' hK; simp only [List.getElem?_toArray, List.getElem?_cons_succ, List.getElem?_cons_zero] at hoi; cases hoi; go_simp; refine (a_cleared W _ hS).mono ?_; rintro r w12 ⟨Ac, cc, rfl, hC12, hB12, hK12⟩; have HB12 := Lib.hid hB12; have HC12 := Lib.hid hC12; clear hB12 hK12 hC12; go_wp2_with fail)
    (refine hK.out _ _ ?_ (fun hS => ?_); (focus (exact HB12.out)); clear hK K'; (try simp only [Act.put, List.setIfInBounds_toArray, List.set_cons_zero, List.set_cons_succ]))
    refine wpAnyH_strong (S' := fun V => Below W.heap.size W V ∧ Kept w12 V (fun _ => False)) (fun V h => h.1) ?_
    have hS : Below W.heap.size W w12 ∧ Kept w12 w12 (fun _ => False) := ⟨HB12.out, Kept.refl _ _⟩
    (refine wpAnyH_takeG (i := 11) (by kernel_rfl) (by kernel_rfl) (by kernel_rfl) (fun _ _ _ _ _ h => h) hS ?_; intro oi hoi; simp only [List.getElem?_toArray, List.getElem?_cons_succ, List.getElem?_cons_zero] at hoi; cases hoi; refine ⟨?_, by rfl, ?_, ?_⟩; rotate_left; (focus (intro wS hSw; have hz : (pre.length : Int) < 11 := (by have := HM.out; omega); go_simp; (first | done | with_reducible rfl))); (try simp only [Act.put, List.setIfInBounds_toArray, List.set_cons_zero, List.set_cons_succ]))
    (refine wpAnyH_takeG (i := 12) (by kernel_rfl) (by kernel_rfl) (by kernel_rfl) (fun _ _ _ _ _ h => h) hS ?_; intro oi hoi; simp only [List.getElem?_toArray, List.getElem?_cons_succ, List.getElem?_cons_zero] at hoi; cases hoi; refine ⟨?_, by rfl, ?_, ?_⟩; rotate_left; (focus (intro wS hSw; obtain ⟨ad, hA, ei⟩ := C_at (C_none HC12.out hSw.2) pre.length HM.out; cases hA; go_simp; (first | done | with_reducible rfl))); (try simp only [Act.put, List.setIfInBounds_toArray, List.set_cons_zero, List.set_cons_succ]))
    (refine wpAnyH_oneG (i := 13) (by kernel_rfl) ?_; intro oi hoi K' hK; simp only [List.getElem?_toArray, List.getElem?_cons_succ, List.getElem?_cons_zero] at hoi; cases hoi; go_simp; refine (a_to _ W _ hS.1).mono ?_; rintro r w13 ⟨rfl, hB13, hK13⟩; have HB13 := Lib.hid hB13; have HK13 := Lib.hid (hS.2.then_ hK13 (fun _ h => h.elim)); clear hB13 hK13; go_wp2_with fail)
    (refine hK.out _ _ ?_ (fun hS => ?_); (focus (exact ⟨HB13.out, HK13.out⟩)); clear hK K'; (try simp only [Act.put, List.setIfInBounds_toArray, List.set_cons_zero, List.set_cons_succ]))
    (refine wpAnyH_takeG (i := 14) (by kernel_rfl) (by kernel_rfl) (by kernel_rfl) (fun _ _ _ _ _ h => h) hS ?_; intro oi hoi; simp only [List.getElem?_toArray, List.getElem?_cons_succ, List.getElem?_cons_zero] at hoi; cases hoi; refine ⟨?_, by rfl, ?_, ?_⟩; rotate_left; (focus (intro wS hSw; skip; go_simp; (first | done | with_reducible rfl))); (try simp only [Act.put, List.setIfInBounds_toArray, List.set_cons_zero, List.set_cons_succ])); (refine wpAnyH_takeG (i := 15) (by kernel_rfl) (by kernel_rfl) (by kernel_rfl) (fun _ _ _ _ _ h => h) hS ?_; intro oi hoi; simp only [List.getElem?_toArray, List.getElem?_cons_succ, List.getElem?_cons_zero] at hoi; cases hoi; refine ⟨?_, by rfl, ?_, ?_⟩; rotate_left; (focus (intro wS hSw; skip; go_simp; (first | done | with_reducible rfl))); (try simp only [Act.put, List.setIfInBounds_toArray, List.set_cons_zero, List.set_cons_succ]))
    refine wpAnyH_done (by kernel_rfl) ?_ _
    refine NoPO.normal (hK2 _ _ ?_)
    clear hK2 hS HB12 HC12 HK13 q1 q2
    refine wpIn_cond_false (by rfl) (wpIn_skip (hK1 _ _ ?_))
    clear hK1
    have HX13 := Lib.hid (show Boxed w13 g12 3 (.int .i64 (pre.length : Int)) from blk_below HBX.out HB13.out)
    have HR13 := Lib.hid (HRw.out.below HB13.out HRw.out.ltb HRw.out.ltg)
    have hw : wrap64 ((pre.length : Int) + 1) = (pre.length : Int) + 1 := by rw [HW2.out]; omega
    have c12 := HX13.out.cell
    have f12 := HX13.out.frozen
    have d12 := (HX13.out.set (.int .i64 ((pre.length : Int) + 1))).cell
    have d11 := (Boxed.other (show Boxed w13 g21 3 (.int .i64 1) from HR13.out.turn) (show g21 ≠ g12 by have := HLG.out; omega) (.int .i64 ((pre.length : Int) + 1))).cell
    have d3 := (Boxed.other (show Boxed w13 w.heap.size 3 (.int .i64 s) from HR13.out.hd.2.1) (show w.heap.size ≠ g12 by have := HLG.out; have := HR13.out.lg; omega) (.int .i64 ((pre.length : Int) + 1))).cell
    have HKF := Lib.hid (show KeepsFrom W0.heap.size W (w13.setCell ⟨g12, 0, none⟩ (.int .i64 ((pre.length : Int) + 1))) from (keepsFrom_of_below HB13.out).trans ((KeepsOthers.setCell _ _ _).from _))
    have HBK := Lib.hid (show Below g12 W (w13.setCell ⟨g12, 0, none⟩ (.int .i64 ((pre.length : Int) + 1))) from (HB13.out.mono (Nat.le_of_lt HSW.out)).trans ((Below.refl g12 w13).setCell (p := ⟨g12, 0, none⟩) (Nat.le_refl _) _))
    have HI2 := Lib.hid (show RI w W0 g12 (pre ++ [pre.length]) (w13.setCell ⟨g12, 0, none⟩ (.int .i64 ((pre.length : Int) + 1))) from ⟨⟨ran_snoc HP.out rfl, by rw [List.length_append, List.length_singleton, show ((pre.length + 1 : Nat) : Int) = (pre.length : Int) + 1 by omega]; exact HX13.out.set _⟩, HBw.out.trans HBK.out⟩)
    clear HX13 HR13 HW2
    gi_wp2
    exact show KeepsFrom _ _ _ ∧ Below _ _ _ ∧ RI _ _ _ _ _ from ⟨HKF.out, HBK.out, HI2.out⟩
   ·
    have HX := Lib.hid hx
    have hne : ((x : Int) != (pre.length : Int)) = true := bne_iff_ne.mpr (by omega)
    clear hx
    (refine wpAnyH_takeG (i := 0) (by kernel_rfl) (by kernel_rfl) (by kernel_rfl) (fun _ _ _ _ _ h => h) hS ?_; intro oi hoi; simp only [List.getElem?_toArray, List.getElem?_cons_succ, List.getElem?_cons_zero] at hoi; cases hoi; refine ⟨?_, by rfl, ?_, ?_⟩; rotate_left; (focus (intro wS hSw; skip; go_simp; (first | done | with_reducible rfl))); (try simp only [Act.put, List.setIfInBounds_toArray, List.set_cons_zero, List.set_cons_succ]))
    (refine wpAnyH_takeG (i := 1) (by kernel_rfl) (by kernel_rfl) (by kernel_rfl) (fun _ _ _ _ _ h => h) hS ?_; intro oi hoi; simp only [List.getElem?_toArray, List.getElem?_cons_succ, List.getElem?_cons_zero] at hoi; cases hoi; refine ⟨?_, by rfl, ?_, ?_⟩; rotate_left; (focus (intro wS hSw; have g0 := (blk_cell (blk_below (g := g12) (o := (.cells #[.int .i64 (pre.length : Int)] 3)) HBX.out hSw) 0).trans rfl; go_simp; (first | done | with_reducible rfl))); (try simp only [Act.put, List.setIfInBounds_toArray, List.set_cons_zero, List.set_cons_succ]))
    (refine wpAnyH_takeG (i := 2) (by kernel_rfl) (by kernel_rfl) (by kernel_rfl) (fun _ _ _ _ _ h => h) hS ?_; intro oi hoi; simp only [List.getElem?_toArray, List.getElem?_cons_succ, List.getElem?_cons_zero] at hoi; cases hoi; refine ⟨?_, by rfl, ?_, ?_⟩; rotate_left; (focus (intro wS hSw; skip; go_simp; (first | done | with_reducible rfl))); (try simp only [Act.put, List.setIfInBounds_toArray, List.set_cons_zero, List.set_cons_succ])); (refine wpAnyH_takeG (i := 3) (by kernel_rfl) (by kernel_rfl) (by kernel_rfl) (fun _ _ _ _ _ h => h) hS ?_; intro oi hoi; simp only [List.getElem?_toArray, List.getElem?_cons_succ, List.getElem?_cons_zero] at hoi; cases hoi; refine ⟨?_, by rfl, ?_, ?_⟩; rotate_left; (focus (intro wS hSw; skip; go_simp; (first | done | with_reducible rfl))); (try simp only [Act.put, List.setIfInBounds_toArray, List.set_cons_zero, List.set_cons_succ])); (refine wpAnyH_offG (i := 4) (by kernel_rfl) (by kernel_rfl) (by kernel_rfl) (fun _ _ _ _ _ h => h) hS ?_; intro oi hoi; simp only [List.getElem?_toArray, List.getElem?_cons_succ, List.getElem?_cons_zero] at hoi; cases hoi; refine ⟨by rfl, ?_⟩; (try simp only [Act.put, List.setIfInBounds_toArray, List.set_cons_zero, List.set_cons_succ])); (refine wpAnyH_offG (i := 5) (by kernel_rfl) (by kernel_rfl) (by kernel_rfl) (fun _ _ _ _ _ h => h) hS ?_; intro oi hoi; simp only [List.getElem?_toArray, List.getElem?_cons_succ, List.getElem?_cons_zero] at hoi; cases hoi; refine ⟨by rfl, ?_⟩; (try simp only [Act.put, List.setIfInBounds_toArray, List.set_cons_zero, List.set_cons_succ])); (refine wpAnyH_takeG (i := 6) (by kernel_rfl) (by kernel_rfl) (by kernel_rfl) (fun _ _ _ _ _ h => h) hS ?_; intro oi hoi; simp only [List.getElem?_toArray, List.getElem?_cons_succ, List.getElem?_cons_zero] at hoi; cases hoi; refine ⟨?_, by rfl, ?_, ?_⟩; rotate_left; (focus (intro wS hSw; skip; go_simp; (first | done | with_reducible rfl))); (try simp only [Act.put, List.setIfInBounds_toArray, List.set_cons_zero, List.set_cons_succ])); (refine wpAnyH_takeG (i := 7) (by kernel_rfl) (by kernel_rfl) (by kernel_rfl) (fun _ _ _ _ _ h => h) hS ?_; intro oi hoi; simp only [List.getElem?_toArray, List.getElem?_cons_succ, List.getElem?_cons_zero] at hoi; cases hoi; refine ⟨?_, by rfl, ?_, ?_⟩; rotate_left; (focus (intro wS hSw; skip; go_simp; (first | done | with_reducible rfl))); (try simp only [Act.put, List.setIfInBounds_toArray, List.set_cons_zero, List.set_cons_succ])); (refine wpAnyH_offG (i := 8) (by kernel_rfl) (by kernel_rfl) (by kernel_rfl) (fun _ _ _ _ _ h => h) hS ?_; intro oi hoi; simp only [List.getElem?_toArray, List.getElem?_cons_succ, List.getElem?_cons_zero] at hoi; cases hoi; refine ⟨by rfl, ?_⟩; (try simp only [Act.put, List.setIfInBounds_toArray, List.set_cons_zero, List.set_cons_succ])); (refine wpAnyH_offG (i := 9) (by kernel_rfl) (by kernel_rfl) (by kernel_rfl) (fun _ _ _ _ _ h => h) hS ?_; intro oi hoi; simp only [List.getElem?_toArray, List.getElem?_cons_succ, List.getElem?_cons_zero] at hoi; cases hoi; refine ⟨by rfl, ?_⟩; (try simp only [Act.put, List.setIfInBounds_toArray, List.set_cons_zero, List.set_cons_succ])); (refine wpAnyH_offG (i := 10) (by kernel_rfl) (by kernel_rfl) (by kernel_rfl) (fun _ _ _ _ _ h => h) hS ?_; intro oi hoi; simp only [List.getElem?_toArray, List.getElem?_cons_succ, List.getElem?_cons_zero] at hoi; cases hoi; refine ⟨by rfl, ?_⟩; (try simp only [Act.put, List.setIfInBounds_toArray, List.set_cons_zero, List.set_cons_succ])); (refine wpAnyH_offG (i := 11) (by kernel_rfl) (by kernel_rfl) (by kernel_rfl) (fun _ _ _ _ _ h => h) hS ?_; intro oi hoi; simp only [List.getElem?_toArray, List.getElem?_cons_succ, List.getElem?_cons_zero] at hoi; cases hoi; refine ⟨by rfl, ?_⟩; (try simp only [Act.put, List.setIfInBounds_toArray, List.set_cons_zero, List.set_cons_succ])); (refine wpAnyH_offG (i := 12) (by kernel_rfl) (by kernel_rfl) (by kernel_rfl) (fun _ _ _ _ _ h => h) hS ?_; intro oi hoi; simp only [List.getElem?_toArray, List.getElem?_cons_succ, List.getElem?_cons_zero] at hoi; cases hoi; refine ⟨by rfl, ?_⟩; (try simp only [Act.put, List.setIfInBounds_toArray, List.set_cons_zero, List.set_cons_succ])); (refine wpAnyH_offG (i := 13) (by kernel_rfl) (by kernel_rfl) (by kernel_rfl) (fun _ _ _ _ _ h => h) hS ?_; intro oi hoi; simp only [List.getElem?_toArray, List.getElem?_cons_succ, List.getElem?_cons_zero] at hoi; cases hoi; refine ⟨by rfl, ?_⟩; (try simp only [Act.put, List.setIfInBounds_toArray, List.set_cons_zero, List.set_cons_succ])); (refine wpAnyH_offG (i := 14) (by kernel_rfl) (by kernel_rfl) (by kernel_rfl) (fun _ _ _ _ _ h => h) hS ?_; intro oi hoi; simp only [List.getElem?_toArray, List.getElem?_cons_succ, List.getElem?_cons_zero] at hoi; cases hoi; refine ⟨by rfl, ?_⟩; (try simp only [Act.put, List.setIfInBounds_toArray, List.set_cons_zero, List.set_cons_succ])); (refine wpAnyH_takeG (i := 15) (by kernel_rfl) (by kernel_rfl) (by kernel_rfl) (fun _ _ _ _ _ h => h) hS ?_; intro oi hoi; simp only [List.getElem?_toArray, List.getElem?_cons_succ, List.getElem?_cons_zero] at hoi; cases hoi; refine ⟨?_, by rfl, ?_, ?_⟩; rotate_left; (focus (intro wS hSw; skip; go_simp; (first | done | with_reducible rfl))); (try simp only [Act.put, List.setIfInBounds_toArray, List.set_cons_zero, List.set_cons_succ]))
    refine wpAnyH_done (by kernel_rfl) ?_ _
    refine NoPO.normal (hK2 _ _ ?_)
    have ez := (blk_cell HRw.out.hd.2.2 0).trans rfl
    have ef := blk_frozen HRw.out.hd.2.2 0
    clear hK2 hne
    gi_wp2
    exact show KeepsFrom _ _ _ ∧ RX _ _ _ _ _ _ from ⟨((KeepsOthers.setCell _ _ _).trans (.drew _)).from _, .inl ⟨rfl, ran_not HX.out⟩⟩
  case don =>
   rintro D xs W hD rfl hI hK
   exact ⟨.inl rfl, D, hD, rfl, HRa.out.below hI.2 HLB.out HLG.out, hK, ⟨hI.1.2, (hI.2.block _ HDG.out).trans HDW.out⟩⟩
  case stop =>
   rintro D c pre W hD ⟨k, hk, rfl⟩ (⟨rfl, hne⟩ | ⟨⟨rfl, hj⟩, hB⟩) hK
   ·
    exact absurd (by simp) hne
   ·
    exact absurd hj (by decide)
  rintro a W ⟨D1, hD, rfl, hR, hK, hE⟩
  have HD1 := Lib.hid hK
  have HR := Lib.hid hR
  have HE1 := Lib.hid hE
  have HDL1 := Lib.hid hD
  have HDX := Lib.hid (show w.heap.size + 1 < D1 ∧ w.heap.size ≤ D0 from ⟨by have := HLB.out; have := HRa.out.lb; have := HS0.out; omega, HDY.out⟩)
  have hj := (blk_cell hR.turn 0).trans rfl
  clear hK hR hE hD
  subst hT0
  have he := HE1.out.1.cell
  go_wp2_with fail
  have H3 := Lib.hid (HR.out.hd.alloc (.cells #[.int .i64 2] 3))
  have HT3 := Lib.hid (blk_new W (.cells #[.int .i64 2] 3))
  have HM0 := Lib.hid (blk_alloc HE1.out.2 (.cells #[.int .i64 2] 3))
  have HM1 := Lib.hid (blk_alloc HD1.out (.cells #[.int .i64 2] 3))
  have HDD := Lib.hid (show D0 < D1 by have := HDG.out; have := HDL1.out; have := HS0.out; omega)
  have HD5 := Lib.hid (show w.heap.size + 1 < D1 ∧ w.heap.size ≤ D0 from HDX.out)
  clear HR HD1 HE1 HDL1 HDG HDW he hj HRa HGx HLB HLG HS0 HDX
  generalize W.alloc (.cells #[.int .i64 2] 3) = w13 at H3 HT3 HM0 HM1 ⊢
  generalize W.heap.size = g31 at HT3 ⊢
  rw [rounds_succ]
  have hj := (blk_cell HT3.out 0).trans rfl
  go_wp2_with fail
  refine (known_calls w13).mono ?_
  rintro r w14 ⟨rfl, hB14⟩
  have H4 := Lib.hid (H3.out.kept (below_step H3.out.1 hB14) (Kept.of_below hB14 _))
  have HN0 := Lib.hid (blk_below HM0.out hB14)
  have HN1 := Lib.hid (blk_below HM1.out hB14)
  have ez := (blk_cell H4.out.2.2 0).trans rfl
  have ef := blk_frozen H4.out.2.2 0
  clear hj hB14 HM0 HM1 HT3 H3
  go_wp2_with fail
  have H5 := Boxed.set (.bool true) (show Boxed w14 (w.heap.size + 1) 4 (.bool false) from H4.out.2.2)
  have hB5 : Below w.heap.size w (w14.setCell ⟨w.heap.size + 1, 0, none⟩ (.bool true)) := below_set H4.out.1 (by omega)
  have k1 := (KeepsOthers.setCell w14 ⟨w.heap.size + 1, 0, none⟩ (.bool true)).same D1 _ HN1.out rfl
  have k0 := (KeepsOthers.setCell w14 ⟨w.heap.size + 1, 0, none⟩ (.bool true)).same D0 _ HN0.out rfl
  generalize w14.setCell ⟨w.heap.size + 1, 0, none⟩ (.bool true) = w15 at H5 hB5 k1 k0 ⊢
  have hdd := HDD.out
  have hd5 := HD5.out
  have k0' : (w15.putObj D1 (.deferred none)).heap[D0]? = some (.deferred (some [])) := (World.putObj_heap_other (Nat.ne_of_lt hdd)).trans k0
  have hB6 : Below w.heap.size w (w15.putObj D1 (.deferred none)) := hB5.trans ((belowK_b (w := w) (Nat.le_refl _) w15 D1 _ (.deferred none) (by omega) k1 rfl rfl))
  have hB7 : Below w.heap.size w ((w15.putObj D1 (.deferred none)).putObj D0 (.deferred none)) := hB6.trans ((belowK_b (w := w) (Nat.le_refl _) _ D0 _ (.deferred none) hd5.2 k0' rfl rfl))
  have H6 : Boxed (w15.putObj D1 (.deferred none)) (w.heap.size + 1) 4 (.bool true) := (World.putObj_heap_other (Nat.ne_of_lt hd5.1)).trans H5
  have hne : D0 ≠ w.heap.size + 1 := by
   intro e
   rw [e, show (w15.putObj D1 (.deferred none)).heap[w.heap.size + 1]? = _ from H6] at k0'
   cases k0'
  have H7 : Boxed ((w15.putObj D1 (.deferred none)).putObj D0 (.deferred none)) (w.heap.size + 1) 4 (.bool true) := (World.putObj_heap_other (Ne.symm hne)).trans H6
  have hc := H7.cell
  refine ⟨by simp, .inl ⟨_, _, rfl, run_takeDeferred k1, ⟨by simp, .inl ⟨_, _, rfl, run_takeDeferred k0', ?_⟩⟩⟩⟩
  refine ⟨.bool true, ?_, rfl, hB7⟩
  simp [results, Try.results6, go_sem, hc]

end Go.Proofs.Ytenhigpeafaidaa.U
-- Zx0
-- Printed by a program of this session's over the kit's printer, with functions given from outside. Lean checks it.
namespace Go.Proofs.Ytenhigpeafaidaa.Z
open Go.RowKit Go.Proofs.YtenhigpeafaidaaW.PrintWords Go.Proofs.YtenhigpeafaidaaW.PrintLast Go.Proofs.YtenhigpeafaidaaW.PrintMore Go.Proofs.Ytenhigpeafaidaa.Q
attribute [local go_sem] max2_int min2_int max_two min_two max_three min_three max_four min_four   -- for this text's walks alone
set_option linter.unusedVariables false
set_option linter.unusedSimpArgs false

theorem sz {α : Type} (a : α) (l : List α) (b : α) : (a :: l).set 0 b = b :: l := List.set_cons_zero ..
class BlkS (w : outParam World) (w' : World) : Prop where
 up : ∀ {g : Nat} {o : Obj}, w.heap[g]? = some o → w'.heap[g]? = some o
instance {w : World} {o : Obj} : BlkS w (w.alloc o) := ⟨fun h => blk_alloc h o⟩
instance {w : World} {n : Nat} : BlkS w (w.drewN n) := ⟨fun h => blk_drewN h n⟩
instance {w : World} : BlkS w w.drew := ⟨fun h => blk_drew h⟩
theorem bk {w w' : World} {g : Nat} {o : Obj} [i : BlkS w w'] (h : w.heap[g]? = some o) : w'.heap[g]? = some o := i.up h
class BlkC (w w' : World) : Prop where
 up : ∀ {g : Nat} {o : Obj}, w.heap[g]? = some o → w'.heap[g]? = some o
instance {w : World} : BlkC w w := ⟨id⟩
instance {w w' : World} {o : Obj} [i : BlkC w w'] : BlkC w (w'.alloc o) := ⟨fun h => blk_alloc (i.up h) o⟩
instance {w w' : World} {n : Nat} [i : BlkC w w'] : BlkC w (w'.drewN n) := ⟨fun h => blk_drewN (i.up h) n⟩
instance {w w' : World} [i : BlkC w w'] : BlkC w w'.drew := ⟨fun h => blk_drew (i.up h)⟩
theorem bb {w w1 w2 : World} {g : Nat} {o : Obj} [i : BlkC w w1] (h : w.heap[g]? = some o) (hb : Below w1.heap.size w1 w2) : w2.heap[g]? = some o := blk_below (i.up h) hb
theorem bl {w w1 : World} {g : Nat} {o : Obj} [i : BlkC w w1] (h : w.heap[g]? = some o) : g < w1.heap.size := blk_lt (i.up h)
theorem bg {w w1 w2 : World} {g : Nat} {o : Obj} {row : Option Nat} [i : BlkC w w1] (h : w.heap[g]? = some o) (hg : w1.grownBy w2 row) (hne : some g ≠ row) : w2.heap[g]? = some o := blk_grown (i.up h) hg hne
theorem bc3 {w : World} {g t : Nat} {a b c : Value} (H : w.heap[g]? = some (.cells #[a, b, c] t (0, 0))) : w.cell? ⟨g, 0, none⟩ = some a ∧ w.cell? ⟨g, 1, none⟩ = some b ∧ w.cell? ⟨g, 2, none⟩ = some c := ⟨(blk_cell H 0).trans rfl, (blk_cell H 1).trans rfl, (blk_cell H 2).trans rfl⟩
theorem bz3 {w : World} {g t : Nat} {cs : Array Value} (H : w.heap[g]? = some (.cells cs t (0, 0))) : w.frozen? ⟨g, 0, none⟩ = false ∧ w.frozen? ⟨g, 1, none⟩ = false ∧ w.frozen? ⟨g, 2, none⟩ = false := ⟨blk_frozen H 0, blk_frozen H 1, blk_frozen H 2⟩
theorem bc4 {w : World} {g t : Nat} {a b c d : Value} (H : w.heap[g]? = some (.cells #[a, b, c, d] t (0, 0))) : w.cell? ⟨g, 0, none⟩ = some a ∧ w.cell? ⟨g, 1, none⟩ = some b ∧ w.cell? ⟨g, 2, none⟩ = some c ∧ w.cell? ⟨g, 3, none⟩ = some d := ⟨(blk_cell H 0).trans rfl, (blk_cell H 1).trans rfl, (blk_cell H 2).trans rfl, (blk_cell H 3).trans rfl⟩
theorem bz4 {w : World} {g t : Nat} {cs : Array Value} (H : w.heap[g]? = some (.cells cs t (0, 0))) : w.frozen? ⟨g, 0, none⟩ = false ∧ w.frozen? ⟨g, 1, none⟩ = false ∧ w.frozen? ⟨g, 2, none⟩ = false ∧ w.frozen? ⟨g, 3, none⟩ = false := ⟨blk_frozen H 0, blk_frozen H 1, blk_frozen H 2, blk_frozen H 3⟩
theorem bc5 {w : World} {g t : Nat} {a b c d e : Value} (H : w.heap[g]? = some (.cells #[a, b, c, d, e] t (0, 0))) : w.cell? ⟨g, 0, none⟩ = some a ∧ w.cell? ⟨g, 1, none⟩ = some b ∧ w.cell? ⟨g, 2, none⟩ = some c ∧ w.cell? ⟨g, 3, none⟩ = some d ∧ w.cell? ⟨g, 4, none⟩ = some e := ⟨(blk_cell H 0).trans rfl, (blk_cell H 1).trans rfl, (blk_cell H 2).trans rfl, (blk_cell H 3).trans rfl, (blk_cell H 4).trans rfl⟩
theorem bz5 {w : World} {g t : Nat} {cs : Array Value} (H : w.heap[g]? = some (.cells cs t (0, 0))) : w.frozen? ⟨g, 0, none⟩ = false ∧ w.frozen? ⟨g, 1, none⟩ = false ∧ w.frozen? ⟨g, 2, none⟩ = false ∧ w.frozen? ⟨g, 3, none⟩ = false ∧ w.frozen? ⟨g, 4, none⟩ = false := ⟨blk_frozen H 0, blk_frozen H 1, blk_frozen H 2, blk_frozen H 3, blk_frozen H 4⟩
theorem bc8 {w : World} {g t : Nat} {a b c d e f h i : Value} (H : w.heap[g]? = some (.cells #[a, b, c, d, e, f, h, i] t (0, 0))) : w.cell? ⟨g, 0, none⟩ = some a ∧ w.cell? ⟨g, 1, none⟩ = some b ∧ w.cell? ⟨g, 2, none⟩ = some c ∧ w.cell? ⟨g, 3, none⟩ = some d ∧ w.cell? ⟨g, 4, none⟩ = some e ∧ w.cell? ⟨g, 5, none⟩ = some f ∧ w.cell? ⟨g, 6, none⟩ = some h ∧ w.cell? ⟨g, 7, none⟩ = some i := ⟨(blk_cell H 0).trans rfl, (blk_cell H 1).trans rfl, (blk_cell H 2).trans rfl, (blk_cell H 3).trans rfl, (blk_cell H 4).trans rfl, (blk_cell H 5).trans rfl, (blk_cell H 6).trans rfl, (blk_cell H 7).trans rfl⟩
theorem bz8 {w : World} {g t : Nat} {cs : Array Value} (H : w.heap[g]? = some (.cells cs t (0, 0))) : w.frozen? ⟨g, 0, none⟩ = false ∧ w.frozen? ⟨g, 1, none⟩ = false ∧ w.frozen? ⟨g, 2, none⟩ = false ∧ w.frozen? ⟨g, 3, none⟩ = false ∧ w.frozen? ⟨g, 4, none⟩ = false ∧ w.frozen? ⟨g, 5, none⟩ = false ∧ w.frozen? ⟨g, 6, none⟩ = false ∧ w.frozen? ⟨g, 7, none⟩ = false := ⟨blk_frozen H 0, blk_frozen H 1, blk_frozen H 2, blk_frozen H 3, blk_frozen H 4, blk_frozen H 5, blk_frozen H 6, blk_frozen H 7⟩

end Go.Proofs.Ytenhigpeafaidaa.Z
-- Zx1
-- Printed by a program of this session's over the kit's printer, with functions given from outside. Lean checks it.
namespace Go.Proofs.Ytenhigpeafaidaa.Z
open Go.RowKit Go.Proofs.YtenhigpeafaidaaW.PrintWords Go.Proofs.YtenhigpeafaidaaW.PrintLast Go.Proofs.YtenhigpeafaidaaW.PrintMore Go.Proofs.Ytenhigpeafaidaa.Q
attribute [local go_sem] max2_int min2_int max_two min_two max_three min_three max_four min_four   -- for this text's walks alone
set_option linter.unusedVariables false
set_option linter.unusedSimpArgs false

/-! ### bandplanlaw26_BandTargets: function 6 -/
def bandplanlaw26_BandTargets.f (a0 : Int) (a1 : Int) : Option (Bool) := if (Lit.int .i64 a0).wf = true then some true else none
theorem bandplanlaw26_BandTargets.calls (a0 : Int) (a1 : Int) (r : Bool) (w : World) (h : bandplanlaw26_BandTargets.f a0 a1 = some r) :
  Calls Try.prog 6 #[.int .i64 a0, .int .i64 a1] w fun e w' => e = .returned (.bool r) ∧ Below w.heap.size w w' := by
 unfold bandplanlaw26_BandTargets.f at h
 split at h
 ·
  rename_i hb
  cases h
  exact U.bandTargets_calls w a0 a1 hb
 ·
  cases h

end Go.Proofs.Ytenhigpeafaidaa.Z
-- PuBandTargets
namespace Go.Proofs.Ytenhigpeafaidaa.Z
open Go.RowKit Go.Proofs.YtenhigpeafaidaaW.PrintWords Go.Proofs.YtenhigpeafaidaaW.PrintLast Go.Proofs.YtenhigpeafaidaaW.PrintMore
set_option linter.unusedVariables false
set_option linter.unusedSimpArgs false
theorem BandTargets_true (a0 : Int) (w0 : (Lit.int .i64 a0).wf = true) (a1 : Int) (w1 : (Lit.int .i64 a1).wf = true) : bandplanlaw26_BandTargets.f a0 a1 = some true := by
 unfold bandplanlaw26_BandTargets.f
 rw [if_pos w0]
end Go.Proofs.Ytenhigpeafaidaa.Z

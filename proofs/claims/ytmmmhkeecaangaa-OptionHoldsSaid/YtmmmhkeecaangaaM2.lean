/- Contracts of the band and option packages' calls: what each answers. Conditions: those that each theorem states. -/
import Derived.Test.YtmmmhkeecaangaaM1
import Derived.Maps.Own
import Derived.Maps.OwnOps
import Derived.Maps.Views
import Derived.RegionCalls
import Derived.Deep.RegionHeld3
import Derived.Test.YtmmmhkeecaangaaWLast
import Derived.Lib.SliceRun
import Derived.Deep.RegionLaw
import Derived.Deep.RegionLawGrows
namespace Go.Proofs.Ytmmmhkeecaangaa.Wire
open Go.RowKit Go.Maps Go.Proofs.YtmmmhkeecaangaaW.PrintWords Go.Proofs.YtmmmhkeecaangaaW.PrintLast Go.Proofs.YtmmmhkeecaangaaW.PrintMore
set_option linter.unusedVariables false
set_option linter.unusedSimpArgs false

/-- The numbers of cleared channels, and the table as a map reads. -/
def tabL : List Int := [24, 23, 21, 19, 18, 14, 13, 12, 10, 8, 7]
def tabD : Nat → DataW Unit
  | 0 => .map []
  | k + 1 => (tabD k).put (.int .i64 (tabL.getD k 0)) (.lit (.int .i64 (12 - (k : Int))))
theorem mapLaw : Keyed Try.prog 3 := int_keyed Try.underlying3
theorem mapZero (w : World) : (zeroValue 3).run Try.prog w = .ok (.int .i64 0) w := by kernel_rfl

def TabAt (w : World) (b k : Nat) : Prop := w.ownsMap Try.prog 3 (plainElem Try.prog 3) b k (tabD k)
def tabV : Array Value := #[.int .i64 24, .int .i64 23, .int .i64 21, .int .i64 19, .int .i64 18, .int .i64 14, .int .i64 13, .int .i64 12, .int .i64 10, .int .i64 8, .int .i64 7]

theorem TabAt.kept {w w' : World} {b k : Nat} {S : Nat → Prop} (h : TabAt w b k) (hk : Kept w w' S) (hne : ¬ S b) : TabAt w' b k := by
  have hlt := World.ownsMap.lt h
  obtain ⟨es, clock, hb, F⟩ := h
  exact ⟨es, clock, (hk.2 b hlt hne).trans hb, F⟩
theorem Kept.setCells {w0 : World} {S : Nat → Prop} (b : Nat) (hb : S b ∨ w0.heap.size ≤ b) : ∀ (vs : List Value) (o : Nat) (w : World), Kept w0 w S → Kept w0 (w.setCells b o vs) S
  | [], _, _, h => h
  | v :: r, o, w, h => Kept.setCells b hb r (o + 1) _ (Kept.setCell h (p := ⟨b, o, none⟩) hb v)
theorem Below.setCells {w0 : World} (b : Nat) (hb : w0.heap.size ≤ b) : ∀ (vs : List Value) (o : Nat) (w : World), Below w0.heap.size w0 w → Below w0.heap.size w0 (w.setCells b o vs)
  | [], _, _, h => h
  | v :: r, o, w, h => Below.setCells b hb r (o + 1) _ (h.setCell (p := ⟨b, o, none⟩) hb v)
theorem tabV_at (k : Nat) (hk : k < 11) : tabV[k]? = some (.int .i64 (tabL.getD k 0)) := by
  match k, hk with
  | 0, _ => rfl
  | 1, _ => rfl
  | 2, _ => rfl
  | 3, _ => rfl
  | 4, _ => rfl
  | 5, _ => rfl
  | 6, _ => rfl
  | 7, _ => rfl
  | 8, _ => rfl
  | 9, _ => rfl
  | 10, _ => rfl
theorem tab_index : ∀ (k : Nat) (_ : k < 11) (W : World), (Instr.index 85 (.agg tabV) (.int .i64 (k : Int))).run Try.prog W = .ok (.int .i64 (tabL.getD k 0)) W
  | 0, _, W => by kernel_rfl
  | 1, _, W => by kernel_rfl
  | 2, _, W => by kernel_rfl
  | 3, _, W => by kernel_rfl
  | 4, _, W => by kernel_rfl
  | 5, _, W => by kernel_rfl
  | 6, _, W => by kernel_rfl
  | 7, _, W => by kernel_rfl
  | 8, _, W => by kernel_rfl
  | 9, _, W => by kernel_rfl
  | 10, _, W => by kernel_rfl
  | k + 11, h, _ => by omega
theorem tabL_lt (k : Nat) (hk : k < 11) : 7 ≤ tabL.getD k 0 ∧ tabL.getD k 0 ≤ 24 := by
  match k, hk with
  | 0, _ => decide
  | 1, _ => decide
  | 2, _ => decide
  | 3, _ => decide
  | 4, _ => decide
  | 5, _ => decide
  | 6, _ => decide
  | 7, _ => decide
  | 8, _ => decide
  | 9, _ => decide
  | 10, _ => decide
theorem wf_small {a : Int} (h0 : -1000000 ≤ a) (h1 : a ≤ 1000000) : (Lit.int .i64 a).wf = true := by
  simp [Lit.wf]
  have e1 : IntKind.i64.min = -9223372036854775808 := by rfl
  have e2 : IntKind.i64.max = 9223372036854775807 := by rfl
  omega

set_option maxRecDepth 100000 in
set_option maxHeartbeats 2000000 in
theorem table_calls (w0 w : World) (hB : Below w0.heap.size w0 w) :
    Calls Try.prog 53 #[] w (fun r w' => ∃ b, r = .returned (.tuple #[.agg tabV, .map (some b)]) ∧ w.heap.size ≤ b ∧ TabAt w' b 11 ∧ Below w0.heap.size w0 w' ∧ Kept w w' (fun _ => False)) := by
  have hmm := @run_makeMap Try.prog
  have HB := Lib.hid hB
  have HSZ := Lib.hid hB.size
  clear hB
  have HT0 := Lib.hid (show TabAt (((w.alloc (.cells #[.int .i64 0, .int .i64 0, .int .i64 0, .int .i64 0, .int .i64 0, .int .i64 0, .int .i64 0, .int .i64 0, .int .i64 0, .int .i64 0, .int .i64 0] 85)).alloc (.cells tabV 85)).alloc (.map #[] 0)) (w.heap.size + 1 + 1) 0 from by have h := World.ownsMap_made (H := Unit) ((w.alloc (.cells #[.int .i64 0, .int .i64 0, .int .i64 0, .int .i64 0, .int .i64 0, .int .i64 0, .int .i64 0, .int .i64 0, .int .i64 0, .int .i64 0, .int .i64 0] 85)).alloc (.cells tabV 85)) Try.prog 3 (plainElem Try.prog 3); simpa [TabAt, tabD] using h)
  have HG0 := Lib.hid (show (((w.alloc (.cells #[.int .i64 0, .int .i64 0, .int .i64 0, .int .i64 0, .int .i64 0, .int .i64 0, .int .i64 0, .int .i64 0, .int .i64 0, .int .i64 0, .int .i64 0] 85)).alloc (.cells tabV 85)).alloc (.map #[] 0)).heap[w.heap.size]? = some (.cells #[.int .i64 0, .int .i64 0, .int .i64 0, .int .i64 0, .int .i64 0, .int .i64 0, .int .i64 0, .int .i64 0, .int .i64 0, .int .i64 0, .int .i64 0] 85 (0, 0)) from blk_alloc (blk_alloc (blk_new _ _) _) _)
  have HG1 := Lib.hid (show (((w.alloc (.cells #[.int .i64 0, .int .i64 0, .int .i64 0, .int .i64 0, .int .i64 0, .int .i64 0, .int .i64 0, .int .i64 0, .int .i64 0, .int .i64 0, .int .i64 0] 85)).alloc (.cells tabV 85)).alloc (.map #[] 0)).heap[w.heap.size + 1]? = some (.cells tabV 85 (0, 0)) from blk_alloc (by have h := blk_new (w.alloc (.cells #[.int .i64 0, .int .i64 0, .int .i64 0, .int .i64 0, .int .i64 0, .int .i64 0, .int .i64 0, .int .i64 0, .int .i64 0, .int .i64 0, .int .i64 0] 85)) (.cells tabV 85); simpa using h) _)
  have HK0 := Lib.hid ((((Kept.refl w (fun _ => False)).alloc (.cells #[.int .i64 0, .int .i64 0, .int .i64 0, .int .i64 0, .int .i64 0, .int .i64 0, .int .i64 0, .int .i64 0, .int .i64 0, .int .i64 0, .int .i64 0] 85)).alloc (.cells tabV 85)).alloc (.map #[] 0))
  have HB0 := Lib.hid (below_alloc' (below_alloc' (below_alloc' HB.out (.cells #[.int .i64 0, .int .i64 0, .int .i64 0, .int .i64 0, .int .i64 0, .int .i64 0, .int .i64 0, .int .i64 0, .int .i64 0, .int .i64 0, .int .i64 0] 85)) (.cells tabV 85)) (.map #[] 0))
  unfold tabV at HT0 HG1 HK0 HB0
  go_enter Try.func53, Try.ntmps53
  go_wp2_with fail
  go_loopg [9] 11 (fun g v9 w' => ∃ k : Nat, v9 = .int .i64 k ∧ k ≤ 11 ∧ Aside0 (g + k = 11) ∧ Aside0 (TabAt w' (w.heap.size + 1 + 1) k) ∧ Aside0 (Below w0.heap.size w0 w') ∧ Aside0 (Kept w w' (fun _ => False)) ∧
    Aside0 (w'.heap[w.heap.size]? = some (.cells #[.int .i64 0, .int .i64 0, .int .i64 0, .int .i64 0, .int .i64 0, .int .i64 0, .int .i64 0, .int .i64 0, .int .i64 0, .int .i64 0, .int .i64 0] 85 (0, 0))) ∧ Aside0 (w'.heap[w.heap.size + 1]? = some (.cells tabV 85 (0, 0))))
  case atStart => exact ⟨0, rfl, by omega, ⟨rfl⟩, ⟨HT0.out⟩, ⟨HB0.out⟩, ⟨HK0.out⟩, ⟨HG0.out⟩, ⟨HG1.out⟩⟩
  case round =>
    obtain ⟨k, rfl, hk, HM, HT, HB, HK, HG0, HG1⟩ := hrel
    clear HT0
    by_cases h : k < 11
    · have c1 : decide ((k : Int) < 11) = true := decide_eq_true (by omega)
      have hx := tab_index k h wr
      have hL := tabL_lt k h
      have HS := Lib.hid (show tabD (k + 1) = (tabD k).put (.int .i64 (tabL.getD k 0)) (.lit (.int .i64 (12 - (k : Int)))) from rfl)
      generalize tabL.getD k 0 = x at hx hL HS
      unfold tabV at hx
      have hw1 : IntKind.i64.wrap (12 - (k : Int)) = 12 - (k : Int) := by rw [IntKind.wrap_i64]; omega
      have hkey : keyOf Try.prog 3 (.int .i64 x) = some (.int .i64 x) := keyOf_int_mk Try.underlying3 (wf_small (by omega) (by omega))
      have HTr := HT.out
      unfold TabAt at HTr
      go_wp2_with (first | (at_mapUpdate; refine wpList_mapUpdate_own _ rfl _ _ _ 86 rfl 3 3 mapLaw Try.underlying86 _ (w.heap.size + 1 + 1) k _ rfl HTr (by unfold maxLen; omega) _ _ _ rfl rfl hkey _ [] (plainElem_int Try.underlying3 (wf_small (by omega) (by omega))) ?_; intro w1 hown1 hgrow1) | fail)
      go_roundg (11 - (k + 1))
      case measure => have := HM.out; omega
      case rel =>
        have hk1 := Kept.of_grown hgrow1 (Kept.refl wr (fun k => k = w.heap.size + 1 + 1)) (fun k hk => .inl (by cases hk; rfl))
        have hs := HK.out.1
        exact ⟨k + 1, by go_num, by omega, ⟨by omega⟩, ⟨by unfold TabAt; rw [HS.out]; exact hown1⟩, ⟨HB.out.grown hgrow1 HB.out.size (fun j hj => by cases hj; have := HSZ.out; omega)⟩, ⟨HK.out.then_ hk1 (fun k hk => .inr (by omega))⟩, ⟨blk_kept HG0.out hk1 (by omega)⟩, ⟨blk_kept HG1.out hk1 (by omega)⟩⟩
    · have c1 : decide ((k : Int) < 11) = false := decide_eq_false (by omega)
      obtain rfl : k = 11 := by omega
      have hrow : (Try.prog.info? 85).map (·.size) = some 11 := by kernel_rfl
      have hr : wr.rangeAt (w.heap.size + 1) 0 [.int .i64 24, .int .i64 23, .int .i64 21, .int .i64 19, .int .i64 18, .int .i64 14, .int .i64 13, .int .i64 12, .int .i64 10, .int .i64 8, .int .i64 7] := fun j v hv => by
        rw [Nat.zero_add, blk_cell HG1.out j, ← Array.getElem?_toList]; exact hv
      have ht : wr.there w.heap.size 0 11 := fun j hj => by
        rw [Nat.zero_add]
        refine ⟨?_, blk_frozen HG0.out j⟩
        rw [blk_cell HG0.out j]
        match j, hj with
        | 0, _ => rfl
        | 1, _ => rfl
        | 2, _ => rfl
        | 3, _ => rfl
        | 4, _ => rfl
        | 5, _ => rfl
        | 6, _ => rfl
        | 7, _ => rfl
        | 8, _ => rfl
        | 9, _ => rfl
        | 10, _ => rfl
      have h1 : (([.int .i64 24, .int .i64 23, .int .i64 21, .int .i64 19, .int .i64 18, .int .i64 14, .int .i64 13, .int .i64 12, .int .i64 10, .int .i64 8, .int .i64 7] : List Value).toArray).all (·.oneCell') = true := all_oneCell_toArray (by simp [Value.oneCell'])
      have hlv := run_loadVar_mid (P := Try.prog) (wr.setCells w.heap.size 0 [.int .i64 24, .int .i64 23, .int .i64 21, .int .i64 19, .int .i64 18, .int .i64 14, .int .i64 13, .int .i64 12, .int .i64 10, .int .i64 8, .int .i64 7]) w.heap.size 0 85 [.int .i64 24, .int .i64 23, .int .i64 21, .int .i64 19, .int .i64 18, .int .i64 14, .int .i64 13, .int .i64 12, .int .i64 10, .int .i64 8, .int .i64 7] _ (World.rangeAt_setCells_same wr w.heap.size 0 _ ht) Try.underlying85 rfl hrow
      have HR := Lib.hid hr; have HTH := Lib.hid ht; have H1 := Lib.hid h1; have HLV := Lib.hid hlv; have HRW := Lib.hid hrow
      clear hr ht h1 hlv hrow
      go_wp2_with (first | (refine wpList_load_mid rfl 85 (.tmp 2) rfl (w.heap.size + 1) 0 rfl [.int .i64 24, .int .i64 23, .int .i64 21, .int .i64 19, .int .i64 18, .int .i64 14, .int .i64 13, .int .i64 12, .int .i64 10, .int .i64 8, .int .i64 7] _ HR.out Try.underlying85 rfl HRW.out ?_) | (refine wpList_store_mid rfl 85 (.tmp 0) (.tmp 18) rfl w.heap.size 0 (([.int .i64 24, .int .i64 23, .int .i64 21, .int .i64 19, .int .i64 18, .int .i64 14, .int .i64 13, .int .i64 12, .int .i64 10, .int .i64 8, .int .i64 7] : List Value).toArray) rfl rfl HTH.out HRW.out H1.out ?_))
      refine bodyPost_ret (v := .tuple #[.agg tabV, .map (some (w.heap.size + 1 + 1))]) ?_ rfl ⟨_, rfl, by omega, ?_, ?_, ?_⟩
      · simp [results, Try.results53, HLV.out, asAddr, tabV, Sem.run_bind, Sem.run_pure]
      · exact HT.out.kept (Kept.setCells (S := fun k => k = w.heap.size) w.heap.size (.inl rfl) _ 0 wr (Kept.refl _ _)) (by omega)
      · exact Below.setCells _ HSZ.out _ 0 _ HB.out
      · exact Kept.setCells _ (.inr (Nat.le_refl _)) _ 0 _ HK.out
end Go.Proofs.Ytmmmhkeecaangaa.Wire
namespace Go.Proofs.Ytmmmhkeecaangaa.Wire
open Go.RowKit Go.Maps Go.Proofs.YtmmmhkeecaangaaW.PrintWords Go.Proofs.YtmmmhkeecaangaaW.PrintLast Go.Proofs.YtmmmhkeecaangaaW.PrintMore
set_option linter.unusedVariables false
set_option linter.unusedSimpArgs false

/-- The blocks of a number of cleared channels in the table's first k rows, or 0. -/
def blk : Nat → Int → Int
  | 0, _ => 0
  | k + 1, n => if n = tabL.getD k 0 then 12 - (k : Int) else blk k n
theorem tab_isMap : ∀ k, IsMap (tabD k)
  | 0 => ⟨[], rfl⟩
  | k + 1 => by obtain ⟨es, h⟩ := tab_isMap k; simp only [tabD, h]; exact ⟨_, rfl⟩
theorem tab_atKey (n : Int) : ∀ k, (tabD k).atKey (.int .i64 n) (.lit (.int .i64 0)) = .lit (.int .i64 (blk k n))
  | 0 => rfl
  | k + 1 => by
    by_cases h : n = tabL.getD k 0
    · unfold blk tabD
      rw [if_pos h, h]
      exact atKey_put_same (tab_isMap k) (by simp [WideAt.IsKeyLit]) _ _
    · unfold blk tabD
      rw [if_neg h, atKey_put_other (by intro e; cases e; exact h rfl)]
      exact tab_atKey n k
def isTarget (n : Int) : Bool := decide (0 < blk 11 n)
theorem wf_of {n : Int} (h0 : -9223372036854775808 ≤ n) (h1 : n ≤ 9223372036854775807) : (Lit.int .i64 n).wf = true := by
  simp [Lit.wf]
  have e1 : IntKind.i64.min = -9223372036854775808 := by rfl
  have e2 : IntKind.i64.max = 9223372036854775807 := by rfl
  omega

theorem valid_calls (w0 w : World) (n : Int) (h0 : -9223372036854775808 ≤ n) (h1 : n ≤ 9223372036854775807) (hB : Below w0.heap.size w0 w) :
    Calls Try.prog 35 #[.agg #[.int .i64 n]] w (fun r w' => r = .returned (.bool (isTarget n)) ∧ Below w0.heap.size w0 w' ∧ Kept w w' (fun _ => False)) := by
  have HB := Lib.hid (below_alloc' hB (.cells #[.int .i64 n] 32))
  have HK := Lib.hid ((Kept.refl w (fun _ => False)).alloc (.cells #[.int .i64 n] 32))
  have hkey : keyOf Try.prog 3 (.int .i64 n) = some (.int .i64 n) := keyOf_int_mk Try.underlying3 (wf_of h0 h1)
  have hcell : (w.alloc (.cells #[.int .i64 n] 32)).cell? ⟨w.heap.size, 0, none⟩ = some (.int .i64 n) := (blk_cell (blk_new _ _) 0).trans rfl
  clear hB
  go_enter Try.func35, Try.ntmps35
  have HC := Lib.hid (show (w.alloc (.cells #[.int .i64 n] 32)).heap[w.heap.size]? = some (.cells #[.int .i64 n] 32 (0, 0)) from blk_new _ _)
  clear hcell
  go_wp2_with fail
  refine (table_calls w0 _ HB.out).mono ?_
  rintro r w1 ⟨b, rfl, hb, hT, hB1, hK1⟩
  have hcell : ∀ o, (w1.alloc o).cell? ⟨w.heap.size, 0, none⟩ = some (.int .i64 n) := fun o => (blk_cell (blk_alloc (blk_kept HC.out hK1 id) o) 0).trans rfl
  have HB1 := Lib.hid hB1
  have HK1 := Lib.hid (HK.out.then_ hK1 (fun _ h => h.elim))
  have hT1 : ∀ o, (w1.alloc o).ownsMap Try.prog 3 (plainElem Try.prog 3) b 11 (tabD 11) := fun o => World.ownsMap.alloc hT o
  clear hB1 hK1 hT HC HB HK
  unfold tabV
  go_wp2_with (first | (at_lookup; refine wpList_lookup_own_int _ rfl _ _ 86 rfl 3 3 .i64 mapLaw Try.underlying86 Try.underlying3 (mapZero _) b 11 _ rfl (hT1 _) _ _ rfl hkey ?_; intro c hat hwc; rw [tab_atKey] at hat; obtain rfl : blk 11 n = c := by simpa using hat))
  go_ret
  exact ⟨rfl, below_alloc' HB1.out _, HK1.out.alloc _⟩
end Go.Proofs.Ytmmmhkeecaangaa.Wire
namespace Go.Proofs.Ytmmmhkeecaangaa.Wire
open Go.RowKit Go.Maps Go.Proofs.YtmmmhkeecaangaaW.PrintWords Go.Proofs.YtmmmhkeecaangaaW.PrintLast Go.Proofs.YtmmmhkeecaangaaW.PrintMore
set_option linter.unusedVariables false
set_option linter.unusedSimpArgs false

def spanV : Array Value := #[.int .i64 0, .int .i64 0, .int .i64 2, .int .i64 6, .int .i64 7, .int .i64 13, .int .i64 14, .int .i64 51]
set_option maxRecDepth 100000 in
theorem spans_calls (w0 w : World) (hB : Below w0.heap.size w0 w) :
    Calls Try.prog 68 #[] w (fun r w' => r = .returned (.agg spanV) ∧ Below w0.heap.size w0 w' ∧ Kept w w' (fun _ => False)) := by
  have HB := Lib.hid hB
  clear hB
  have hr : (w.alloc (.cells #[.int .i64 0, .int .i64 0, .int .i64 2, .int .i64 6, .int .i64 7, .int .i64 13, .int .i64 14, .int .i64 51] 105)).rangeAt w.heap.size 0 [.int .i64 0, .int .i64 0, .int .i64 2, .int .i64 6, .int .i64 7, .int .i64 13, .int .i64 14, .int .i64 51] := fun j v hv => by
    rw [Nat.zero_add, blk_cell (blk_new _ _) j, ← Array.getElem?_toList]; exact hv
  have hlv := run_loadVar_mid (P := Try.prog) (w.alloc (.cells #[.int .i64 0, .int .i64 0, .int .i64 2, .int .i64 6, .int .i64 7, .int .i64 13, .int .i64 14, .int .i64 51] 105)) w.heap.size 0 105 [.int .i64 0, .int .i64 0, .int .i64 2, .int .i64 6, .int .i64 7, .int .i64 13, .int .i64 14, .int .i64 51] _ hr Try.underlying105 rfl (by kernel_rfl)
  have HLV := Lib.hid hlv
  clear hlv hr
  go_enter Try.func68, Try.ntmps68
  go_wp2_with fail
  refine bodyPost_ret (v := .agg spanV) ?_ rfl ⟨rfl, below_alloc' HB.out _, (Kept.refl _ _).alloc _⟩
  simp [results, Try.results68, HLV.out, asAddr, spanV, Sem.run_bind, Sem.run_pure]

theorem span_index1 (W : World) : (Instr.index 105 (.agg #[.int .i64 0, .int .i64 0, .int .i64 2, .int .i64 6, .int .i64 7, .int .i64 13, .int .i64 14, .int .i64 51]) (.int .i64 1)).run Try.prog W = .ok (.agg #[.int .i64 2, .int .i64 6]) W := by kernel_rfl
theorem span_index2 (W : World) : (Instr.index 105 (.agg #[.int .i64 0, .int .i64 0, .int .i64 2, .int .i64 6, .int .i64 7, .int .i64 13, .int .i64 14, .int .i64 51]) (.int .i64 2)).run Try.prog W = .ok (.agg #[.int .i64 7, .int .i64 13]) W := by kernel_rfl
theorem span_index3 (W : World) : (Instr.index 105 (.agg #[.int .i64 0, .int .i64 0, .int .i64 2, .int .i64 6, .int .i64 7, .int .i64 13, .int .i64 14, .int .i64 51]) (.int .i64 3)).run Try.prog W = .ok (.agg #[.int .i64 14, .int .i64 51]) W := by kernel_rfl
theorem pair_index0 (W : World) : (Instr.index 104 (.agg #[.int .i64 14, .int .i64 51]) (.int .i64 0)).run Try.prog W = .ok (.int .i64 14) W := by kernel_rfl

/-- May a channel be assigned under a target? -/
def leftB (n c : Int) : Bool := decide (c < 14) || (decide (c ≤ 51 - n) && (c != 37))
set_option maxRecDepth 100000 in
theorem left_calls (w0 w : World) (c n : Int) (h0 : -1000 ≤ n) (h1 : n ≤ 1000) (hB : Below w0.heap.size w0 w) :
    Calls Try.prog 69 #[.int .i64 c, .agg #[.int .i64 n]] w (fun r w' => r = .returned (.bool (leftB n c)) ∧ Below w0.heap.size w0 w' ∧ Kept w w' (fun _ => False)) := by
  have HB := Lib.hid (below_alloc' hB (.cells #[.int .i64 n] 32))
  have HK := Lib.hid ((Kept.refl w (fun _ => False)).alloc (.cells #[.int .i64 n] 32))
  have HC := Lib.hid (show (w.alloc (.cells #[.int .i64 n] 32)).heap[w.heap.size]? = some (.cells #[.int .i64 n] 32 (0, 0)) from blk_new _ _)
  have hw1 : IntKind.i64.wrap (51 - n) = 51 - n := by rw [IntKind.wrap_i64]; omega
  have hix := span_index3
  have hiy := pair_index0
  clear hB
  by_cases a : c < 14
  · have d1 : decide (c < 14) = true := decide_eq_true a
    have HR := Lib.hid (show leftB n c = true by unfold leftB; rw [d1]; rfl)
    clear a
    go_enter Try.func69, Try.ntmps69
    go_wp2_with (first | (go_at_call 68; refine (spans_calls w0 _ HB.out).mono ?_; rintro r w1 ⟨rfl, hB1, hK1⟩; have HB1 := Lib.hid hB1; have HK1 := Lib.hid (HK.out.then_ hK1 (fun _ h => h.elim)); have hcell : w1.cell? ⟨w.heap.size, 0, none⟩ = some (.int .i64 n) := (blk_cell (blk_kept HC.out hK1 id) 0).trans rfl; clear hB1 hK1; unfold spanV))
    go_ret
    exact ⟨by rw [HR.out]; rfl, HB1.out, HK1.out⟩
  · have d1 : decide (c < 14) = false := decide_eq_false a
    clear a
    by_cases b : c ≤ 51 - n
    · have d2 : decide (c ≤ 51 - n) = true := decide_eq_true b
      have HR := Lib.hid (show leftB n c = (c != 37) by unfold leftB; rw [d1, d2]; rfl)
      clear b
      go_enter Try.func69, Try.ntmps69
      go_wp2_with (first | (go_at_call 68; refine (spans_calls w0 _ HB.out).mono ?_; rintro r w1 ⟨rfl, hB1, hK1⟩; have HB1 := Lib.hid hB1; have HK1 := Lib.hid (HK.out.then_ hK1 (fun _ h => h.elim)); have hcell : w1.cell? ⟨w.heap.size, 0, none⟩ = some (.int .i64 n) := (blk_cell (blk_kept HC.out hK1 id) 0).trans rfl; clear hB1 hK1; unfold spanV))
      go_ret
      exact ⟨by rw [HR.out]; rfl, HB1.out, HK1.out⟩
    · have d2 : decide (c ≤ 51 - n) = false := decide_eq_false b
      have HR := Lib.hid (show leftB n c = false by unfold leftB; rw [d1, d2]; rfl)
      clear b
      go_enter Try.func69, Try.ntmps69
      go_wp2_with (first | (go_at_call 68; refine (spans_calls w0 _ HB.out).mono ?_; rintro r w1 ⟨rfl, hB1, hK1⟩; have HB1 := Lib.hid hB1; have HK1 := Lib.hid (HK.out.then_ hK1 (fun _ h => h.elim)); have hcell : w1.cell? ⟨w.heap.size, 0, none⟩ = some (.int .i64 n) := (blk_cell (blk_kept HC.out hK1 id) 0).trans rfl; clear hB1 hK1; unfold spanV))
      go_ret
      exact ⟨by rw [HR.out]; rfl, HB1.out, HK1.out⟩

/-- A band's lowest and highest channel, and the error. -/
def loB (n : Int) : Int := if n = 1 then 2 else if n = 2 then 7 else if n = 3 then 14 else 0
def hiB (n : Int) : Int := if n = 1 then 6 else if n = 2 then 13 else if n = 3 then 51 else 0
def erB (n : Int) : Int := if 1 ≤ n ∧ n ≤ 3 then 0 else 2
set_option maxRecDepth 100000 in
theorem range_calls (w0 w : World) (n : Int) (hB : Below w0.heap.size w0 w) :
    Calls Try.prog 55 #[.int .i64 n] w (fun r w' => r = .returned (.tuple #[.int .i64 (loB n), .int .i64 (hiB n), .int .i64 (erB n)]) ∧ Below w0.heap.size w0 w' ∧ Kept w w' (fun _ => False)) := by
  have HB := Lib.hid hB
  clear hB
  by_cases a : n ≤ 0
  · have d1 : decide (n ≤ 0) = true := decide_eq_true a
    have HR := Lib.hid (show loB n = 0 ∧ hiB n = 0 ∧ erB n = 2 by unfold loB hiB erB; refine ⟨?_, ?_, ?_⟩ <;> (repeat rw [if_neg (by omega)]))
    clear a
    go_enter Try.func55, Try.ntmps55
    go_wp2_with fail
    go_ret3
    exact ⟨by rw [HR.out.1, HR.out.2.1, HR.out.2.2]; rfl, HB.out, Kept.refl _ _⟩
  have d1 : decide (n ≤ 0) = false := decide_eq_false a
  by_cases b : 4 ≤ n
  · have d2 : decide (4 ≤ n) = true := decide_eq_true b
    have HR := Lib.hid (show loB n = 0 ∧ hiB n = 0 ∧ erB n = 2 by unfold loB hiB erB; refine ⟨?_, ?_, ?_⟩ <;> (repeat rw [if_neg (by omega)]))
    clear a b
    go_enter Try.func55, Try.ntmps55
    go_wp2_with fail
    go_ret3
    exact ⟨by rw [HR.out.1, HR.out.2.1, HR.out.2.2]; rfl, HB.out, Kept.refl _ _⟩
  clear d1
  obtain rfl | rfl | rfl : n = 1 ∨ n = 2 ∨ n = 3 := by omega
  all_goals
    clear a b
    have hix1 := span_index1
    have hix2 := span_index2
    have hix3 := span_index3
    go_enter Try.func55, Try.ntmps55
    go_wp2_with (first | (go_at_call 68; refine (spans_calls w0 _ HB.out).mono ?_; rintro r w1 ⟨rfl, hB1, hK1⟩; have HB1 := Lib.hid hB1; have HK1 := Lib.hid hK1; clear hB1 hK1; unfold spanV))
    go_quiet (fail)
    go_wp2
    go_ret3
    exact ⟨rfl, pw_below_drewN (below_alloc' HB1.out _) nq, (HK1.out.alloc _).drewN nq⟩
end Go.Proofs.Ytmmmhkeecaangaa.Wire
namespace Go.Proofs.Ytmmmhkeecaangaa.Wire
open Go.RowKit Go.Maps Go.Proofs.YtmmmhkeecaangaaW.PrintWords Go.Proofs.YtmmmhkeecaangaaW.PrintLast Go.Proofs.YtmmmhkeecaangaaW.PrintMore
set_option linter.unusedVariables false
set_option linter.unusedSimpArgs false

theorem filter_step (p : Int → Bool) (l : List Int) (k : Nat) (h : k < l.length) : (l.take (k + 1)).filter p = (l.take k).filter p ++ (if p (l.getD k 0) = true then [l.getD k 0] else []) := by
  rw [List.take_add_one, List.filter_append, List.getElem?_eq_getElem h]
  have e : l.getD k 0 = l[k] := by simp [List.getD, h]
  rw [e]
  cases hp : p l[k] <;> simp [List.filter, hp]

def AddPost (w0 w : World) (ok : Nat → Prop) (l : List Int) (r : Ending) (w' : World) : Prop :=
  ∃ v', r = .returned v' ∧ (Kd.int .i64).R 3 w' w0.heap.size (fun k => ok k ∨ w.heap.size ≤ k) v' l ∧ Below w0.heap.size w0 w' ∧ Kept w w' ok

set_option maxHeartbeats 1000000 in
theorem add_calls (w0 w : World) (v : Value) (xs ms : List Int) (ok : Nat → Prop) (n : Int) (A : Option Addr) (c : Nat) (h0 : -1000 ≤ n) (h1 : n ≤ 1000) (hB : Below w0.heap.size w0 w)
    (hO : (Kd.int .i64).R 3 w w0.heap.size ok v xs) (hC : (Kd.int .i64).C w A ms.length ms) (hl : xs.length + ms.length ≤ 1000000) (hap : Kept w w (fun _ => False) → ∀ W, Kept w W (fun k => ok k ∨ w.heap.size < k) → (Kd.int .i64).C W A ms.length ms) :
    Calls Try.prog 56 #[v, .agg #[.int .i64 n], .slice A ms.length c] w (AddPost w0 w ok (xs ++ ms.filter (leftB n))) := by
  have HB0 := Lib.hid (below_alloc' hB (.cells #[.int .i64 n] 32))
  have HSZ := Lib.hid hB.size
  have HG0 := Lib.hid (show (w.alloc (.cells #[.int .i64 n] 32)).heap[w.heap.size]? = some (.cells #[.int .i64 n] 32 (0, 0)) from blk_new _ _)
  have HK0 := Lib.hid ((Kept.refl w (fun k => (ok k ∧ k < w.heap.size) ∨ w.heap.size < k)).alloc (.cells #[.int .i64 n] 32))
  have HO0 := Lib.hid (Kd.R_alloc (Kd.R_mono (ok' := fun k => (ok k ∧ k < w.heap.size) ∨ w.heap.size < k) (Kd.R_bound hO) (fun _ h => .inl ⟨h.1, h.2.2.1⟩)) (.cells #[.int .i64 n] 32))
  have HAP := Lib.hid (fun W (hk : Kept w W (fun k => (ok k ∧ k < w.heap.size) ∨ w.heap.size < k)) => hap (Kept.refl _ _) W (hk.mono (fun _ h => h.elim (fun h => .inl h.1) .inr)))
  clear hB hO hC hap
  go_enter Try.func56, Try.ntmps56
  go_wp2_with fail
  go_loopg [0, 11] ms.length (fun g v0 v11 w' => ∃ k : Nat, v11 = .int .i64 k ∧ k ≤ ms.length ∧ Aside0 (g + k = ms.length) ∧ Aside0 ((Kd.int .i64).R 3 w' w0.heap.size (fun k => (ok k ∧ k < w.heap.size) ∨ w.heap.size < k) v0 (xs ++ (ms.take k).filter (leftB n))) ∧
    Aside0 (Kept w w' (fun k => (ok k ∧ k < w.heap.size) ∨ w.heap.size < k)) ∧ Aside0 (Below w0.heap.size w0 w') ∧ Aside0 (w'.heap[w.heap.size]? = some (.cells #[.int .i64 n] 32 (0, 0))))
  case atStart => exact ⟨0, rfl, Nat.zero_le _, ⟨rfl⟩, ⟨by simpa using HO0.out⟩, ⟨HK0.out⟩, ⟨HB0.out⟩, ⟨HG0.out⟩⟩
  case round =>
    obtain ⟨k, rfl, hk, HM, HO, HK, HB, HG⟩ := hrel
    by_cases h : k < ms.length
    · have q1 : decide ((k : Int) < (ms.length : Int)) = true := decide_eq_true (by omega)
      obtain ⟨ad, hA, hcell⟩ := C_at (HAP.out _ HK.out) k h
      subst hA
      have hg : wr.cell? ⟨w.heap.size, 0, none⟩ = some (.int .i64 n) := (blk_cell HG.out 0).trans rfl
      have HF := Lib.hid (show xs ++ (ms.take (k + 1)).filter (leftB n) = (xs ++ (ms.take k).filter (leftB n)) ++ (if leftB n (ms.getD k 0) = true then [ms.getD k 0] else []) by rw [filter_step (leftB n) ms k h, List.append_assoc])
      have HLN := Lib.hid (show (xs ++ (ms.take k).filter (leftB n)).length + 1 ≤ 1000000 by
        have := List.length_filter_le (leftB n) (ms.take k)
        rw [List.length_take] at this; rw [List.length_append]; omega)
      generalize ms.getD k 0 = x at hcell HF
      generalize xs ++ (ms.take k).filter (leftB n) = L at HO HF HLN
      have HLC := Lib.hid (left_calls w0 wr x n h0 h1 HB.out)
      obtain ⟨b, hb⟩ : ∃ b, leftB n x = b := ⟨_, rfl⟩
      rw [hb] at HF HLC
      clear hb
      cases b with
      | true =>
        obtain ⟨Au, cu, hu⟩ := Kd.R_slice HO.out
        subst hu
        go_wp2_with (first | (go_at_call 69; refine HLC.out.mono ?_; rintro r w2 ⟨rfl, hB2, hK2⟩; have HB2 := Lib.hid hB2; have HK2 := Lib.hid hK2; have HO2 := Lib.hid (Kd.R_kept HO.out hK2 (fun _ _ => id)); clear hB2 hK2) | ((with_reducible refine gate_builtin (b := .append) (xs := #[.tmp 18, .tmp 20]) rfl ?_); at_builtin; (refine Kd.R_append (Kd.int .i64) (w0 := w0) w0.heap.size rfl (.tmp 18) (.tmp 20) 22 3 (.int .i64 0) 8 rfl Try.underlying22 infoI rfl (by decide) (by omega) (.slice Au L.length cu) L x [.int .i64 x] (fun k => (ok k ∧ k < w.heap.size) ∨ w.heap.size < k) (fun _ => False) rfl rfl ?aP (fun _ hk => hk.elim) ?aF ?aO ?aB ?aS ?aL ?_; (case aP => exact rfl); (case aB => exact (by repeat (first | (with_reducible first | exact HB2.out | apply below_alloc | apply pw_below_drewN | apply below_drew1) | exact HB2.out))); (case aF => exact (fun k hk => .inr (by have := HK2.out.1; have := blk_lt HG.out; omega))); (case aO => first | exact HO2.out | exact (by (with_reducible repeat (first | apply Kd.R_alloc | apply Kd.R_drewN | apply Kd.R_drew)); exact HO2.out)); (case aS => exact (below_size (by repeat (first | (with_reducible first | exact HB2.out | apply below_alloc | apply pw_below_drewN | apply below_drew1) | exact HB2.out)))); (case aL => exact (by have := HLN.out; omega)); intro v1 w1 hO1 hB1 hG1 hA1; have HO1 := Lib.hid hO1; have HB1 := Lib.hid hB1; have HG1 := Lib.hid hG1; clear hO1 hB1 hG1 hA1)))
        have HK3 := Lib.hid (Kept.of_grown HG1.out (Kept.refl _ (fun k => (ok k ∧ k < w.heap.size) ∨ w.heap.size < k)) (fun k hk => .inl (HO2.out.1 k hk)))
        go_roundg (ms.length - (k + 1))
        case measure => have := HM.out; omega
        case rel => exact ⟨k + 1, by go_num, by omega, ⟨by omega⟩, ⟨by rw [HF.out]; simpa using HO1.out⟩, ⟨(HK.out.then_ HK2.out (fun _ h => h.elim)).then_ (HK3.out) (fun _ h => .inl h)⟩, ⟨HB1.out⟩, ⟨blk_kept (blk_kept HG.out HK2.out id) HK3.out (fun h => h.elim (fun h => absurd h.2 (Nat.lt_irrefl _)) (Nat.lt_irrefl _))⟩⟩
      | false =>
        go_wp2_with (first | (go_at_call 69; refine HLC.out.mono ?_; rintro r w2 ⟨rfl, hB2, hK2⟩; have HB2 := Lib.hid hB2; have HK2 := Lib.hid hK2; have HO2 := Lib.hid (Kd.R_kept HO.out hK2 (fun _ _ => id)); clear hB2 hK2))
        go_roundg (ms.length - (k + 1))
        case measure => have := HM.out; omega
        case rel => exact ⟨k + 1, by go_num, by omega, ⟨by omega⟩, ⟨by rw [HF.out]; simpa using HO2.out⟩, ⟨HK.out.then_ HK2.out (fun _ h => h.elim)⟩, ⟨HB2.out⟩, ⟨blk_kept HG.out HK2.out id⟩⟩
    · have q1 : decide ((k : Int) < (ms.length : Int)) = false := decide_eq_false (by omega)
      have e : ms.take k = ms := List.take_of_length_le (by omega)
      have ho := HO.out
      rw [e] at ho
      have HO1 := Lib.hid ho
      clear ho e HO
      go_wp2_with fail
      go_ret
      exact ⟨_, rfl, Kd.R_mono HO1.out (fun k h => h.elim (fun h => .inl h.1) (fun h => .inr (Nat.le_of_lt h))), HB.out, ⟨HK.out.1, fun i hi hn => HK.out.2 i hi (fun h => h.elim (fun h => hn h.1) (fun h => by omega))⟩⟩

/-- The channels of a band under a target. -/
def rangeI (lo hi : Int) : List Int := (List.range (hi - lo + 1).toNat).map (fun (k : Nat) => lo + (k : Int))
def chansB (b n : Int) : List Int := (rangeI (loB b) (hiB b)).filter (leftB n)
def ChanPost (w0 w : World) (b n : Int) (r : Ending) (w' : World) : Prop :=
  ∃ v', r = .returned (.tuple #[v', .int .i64 (if erB b = 0 ∧ isTarget n = true then 0 else 2)]) ∧ (Kd.int .i64).R 3 w' w0.heap.size (fun k => w.heap.size ≤ k) v' (if erB b = 0 ∧ isTarget n = true then chansB b n else []) ∧ Below w0.heap.size w0 w' ∧ Kept w w' (fun _ => False)
theorem filter_one (p : Int → Bool) (c : Int) : [c].filter p = if p c = true then [c] else [] := by cases h : p c <;> simp [List.filter, h]
theorem rangeI_len (lo hi : Int) : (rangeI lo hi).length = (hi - lo + 1).toNat := by simp [rangeI]
theorem rangeI_at (lo hi : Int) (k : Nat) (h : k < (rangeI lo hi).length) : (rangeI lo hi).getD k 0 = lo + (k : Int) := by
  have h2 : k < (hi - lo + 1).toNat := by rw [rangeI_len] at h; exact h
  simp [rangeI, List.getD, h2]
theorem band_bounds {b : Int} (h : 1 ≤ b ∧ b ≤ 3) : 2 ≤ loB b ∧ loB b ≤ hiB b ∧ hiB b ≤ 51 := by
  obtain rfl | rfl | rfl : b = 1 ∨ b = 2 ∨ b = 3 := by omega
  all_goals decide
theorem target_small {n : Int} (h : isTarget n = true) : 7 ≤ n ∧ n ≤ 24 := by
  simp only [isTarget, blk, tabL, List.getD_cons_succ, List.getD_cons_zero, decide_eq_true_eq] at h
  repeat (split at h; · omega)
  omega

set_option maxHeartbeats 1000000 in
theorem channels_calls (w0 w : World) (b n : Int) (h0 : -9223372036854775808 ≤ n) (h1 : n ≤ 9223372036854775807) (hB : Below w0.heap.size w0 w) :
    Calls Try.prog 38 #[.int .i64 b, .agg #[.int .i64 n]] w (ChanPost w0 w b n) := by
  have HB := Lib.hid (below_alloc' hB (.cells #[.int .i64 n] 32))
  have HK := Lib.hid ((Kept.refl w (fun _ => False)).alloc (.cells #[.int .i64 n] 32))
  have HG := Lib.hid (show (w.alloc (.cells #[.int .i64 n] 32)).heap[w.heap.size]? = some (.cells #[.int .i64 n] 32 (0, 0)) from blk_new _ _)
  clear hB
  by_cases hb : 1 ≤ b ∧ b ≤ 3
  · have he : erB b = 0 := by unfold erB; rw [if_pos hb]
    have HE := Lib.hid he
    cases ht : isTarget n with
    | false =>
      have HT := Lib.hid ht
      clear hb he ht
      go_enter Try.func38, Try.ntmps38
      go_wp2_with fail
      refine (range_calls w0 _ b HB.out).mono ?_
      rintro r w1 ⟨rfl, hB1, hK1⟩
      rw [HE.out]
      have hcell : w1.cell? ⟨w.heap.size, 0, none⟩ = some (.int .i64 n) := (blk_cell (blk_kept HG.out hK1 id) 0).trans rfl
      have HB1 := Lib.hid hB1; have HK1 := Lib.hid (HK.out.then_ hK1 (fun _ h => h.elim))
      clear hB1 hK1
      go_wp2_with fail
      refine (valid_calls w0 _ n h0 h1 HB1.out).mono ?_
      rintro r w2 ⟨rfl, hB2, hK2⟩
      rw [HT.out]
      have HB2 := Lib.hid hB2; have HK2 := Lib.hid (HK1.out.then_ hK2 (fun _ h => h.elim))
      clear hB2 hK2 hcell
      go_wp2_with fail
      go_ret2
      exact ⟨_, by rw [if_neg (by rw [HT.out]; simp)]; rfl, by rw [if_neg (by rw [HT.out]; simp)]; exact Kd.R_nil _ _ _ _ _, HB2.out, HK2.out⟩
    | true =>
      have HT := Lib.hid ht
      have hbd := band_bounds hb
      have hts := target_small ht
      have HCH := Lib.hid (show chansB b n = (rangeI (loB b) (hiB b)).filter (leftB n) from rfl)
      have HRG := Lib.hid (range_calls w0 _ b HB.out)
      rw [he] at HRG
      generalize loB b = lo at hbd HCH HRG
      generalize hiB b = hi at hbd HCH HRG
      have HLL := Lib.hid (rangeI_len lo hi)
      have HRA := Lib.hid (rangeI_at lo hi)
      obtain ⟨Lr, hLr⟩ : ∃ L, rangeI lo hi = L := ⟨_, rfl⟩
      rw [hLr] at HCH HLL HRA
      have hln : (Lr.length : Int) = hi - lo + 1 := by rw [HLL.out]; omega
      clear hb he ht hLr HLL
      go_enter Try.func38, Try.ntmps38
      go_wp2_with fail
      refine HRG.out.mono ?_
      rintro r w1 ⟨rfl, hB1, hK1⟩
      have hcell : w1.cell? ⟨w.heap.size, 0, none⟩ = some (.int .i64 n) := (blk_cell (blk_kept HG.out hK1 id) 0).trans rfl
      have HG1 := Lib.hid (blk_kept HG.out hK1 id)
      have HB1 := Lib.hid hB1; have HK1 := Lib.hid (HK.out.then_ hK1 (fun _ h => h.elim))
      clear hB1 hK1 HRG HG
      go_wp2_with fail
      refine (valid_calls w0 _ n h0 h1 HB1.out).mono ?_
      rintro r w2 ⟨rfl, hB2, hK2⟩
      rw [HT.out]
      have HG2 := Lib.hid (blk_kept HG1.out hK2 id)
      have HB2 := Lib.hid hB2; have HK2 := Lib.hid (HK1.out.then_ hK2 (fun _ h => h.elim))
      clear hB2 hK2 hcell HG1 HB1 HK1
      go_wp2_with fail
      go_loopg [9, 10] Lr.length (fun g v9 v10 w' => ∃ k : Nat, v10 = .int .i64 (lo + (k : Int)) ∧ k ≤ Lr.length ∧ Aside0 (g + k = Lr.length) ∧ Aside0 ((Kd.int .i64).R 3 w' w0.heap.size (fun k => w.heap.size < k) v9 ((Lr.take k).filter (leftB n))) ∧
        Aside0 (Kept w w' (fun _ => False)) ∧ Aside0 (Below w0.heap.size w0 w') ∧ Aside0 (w'.heap[w.heap.size]? = some (.cells #[.int .i64 n] 32 (0, 0))))
      case atStart => exact ⟨0, by simp, Nat.zero_le _, ⟨rfl⟩, ⟨by simpa using Kd.R_nil _ _ _ _ _⟩, ⟨HK2.out⟩, ⟨HB2.out⟩, ⟨HG2.out⟩⟩
      case round =>
        obtain ⟨k, rfl, hk, HM, HO, HKr, HBr, HGr⟩ := hrel
        by_cases h : k < Lr.length
        · have q1 : decide (lo + (k : Int) ≤ hi) = true := decide_eq_true (by omega)
          have hg : wr.cell? ⟨w.heap.size, 0, none⟩ = some (.int .i64 n) := (blk_cell HGr.out 0).trans rfl
          have hga : ∀ o, (wr.alloc o).cell? ⟨w.heap.size, 0, none⟩ = some (.int .i64 n) := fun o => (blk_cell (blk_alloc HGr.out o) 0).trans rfl
          have HF := Lib.hid (show (Lr.take (k + 1)).filter (leftB n) = (Lr.take k).filter (leftB n) ++ [lo + (k : Int)].filter (leftB n) by rw [filter_step (leftB n) Lr k h, HRA.out k h, filter_one])
          have HLN := Lib.hid (show ((Lr.take k).filter (leftB n)).length + 1 ≤ 1000000 by
            have := List.length_filter_le (leftB n) (Lr.take k)
            rw [List.length_take] at this; omega)
          have hwr := blk_lt HGr.out
          have hw1 : IntKind.i64.wrap (lo + (k : Int) + 1) = lo + (k : Int) + 1 := by rw [IntKind.wrap_i64]; omega
          have HAC := Lib.hid (add_calls w0 (wr.alloc (.cells #[.int .i64 (lo + (k : Int))] 3)) u9 _ [lo + (k : Int)] (fun k => w.heap.size < k ∧ k < wr.heap.size) n (some ⟨wr.heap.size, 0, none⟩) 1 (by omega) (by omega) (below_alloc' HBr.out _)
            (Kd.R_alloc (Kd.R_mono (Kd.R_bound HO.out) (fun _ h => ⟨h.1, h.2.2.1⟩)) _) (C_blk (blk_new _ _) [lo + (k : Int)] rfl (by simp)) (by have := HLN.out; simpa using this)
            (fun _ W hW => C_blk (blk_kept (blk_new _ _) hW (by simp)) [lo + (k : Int)] rfl (by simp)))
          go_wp2_with fail
          refine HAC.out.mono ?_
          rintro r w3 ⟨v3, rfl, hO, hB, hK⟩
          have HO3 := Lib.hid (Kd.R_mono (ok' := fun k => w.heap.size < k) hO (fun k h => h.elim (fun h => h.1) (fun h => by simp at h; omega)))
          have HB3 := Lib.hid hB
          have HK3 := Lib.hid ((HKr.out.alloc (.cells #[.int .i64 (lo + (k : Int))] 3)).then_ hK (fun k h => .inr (Nat.le_of_lt h.1)))
          have HG3 := Lib.hid (blk_kept (blk_alloc HGr.out _) hK (fun h => Nat.lt_irrefl _ h.1))
          clear hO hB hK HAC
          go_wp2_with fail
          go_roundg (Lr.length - (k + 1))
          case measure => have := HM.out; omega
          case rel => exact ⟨k + 1, by congr 1; omega, by omega, ⟨by omega⟩, ⟨by rw [HF.out]; exact HO3.out⟩, ⟨HK3.out⟩, ⟨HB3.out⟩, ⟨HG3.out⟩⟩
        · have q1 : decide (lo + (k : Int) ≤ hi) = false := decide_eq_false (by omega)
          have e : Lr.take k = Lr := List.take_of_length_le (by omega)
          have ho := HO.out
          rw [e] at ho
          have HO1 := Lib.hid ho
          clear ho e HO
          go_wp2_with fail
          go_ret2
          exact ⟨_, by rw [if_pos ⟨HE.out, HT.out⟩]; rfl, by rw [if_pos ⟨HE.out, HT.out⟩, HCH.out]; exact Kd.R_mono HO1.out (fun k h => Nat.le_of_lt h), HBr.out, HKr.out⟩
  · have he : erB b = 2 := by unfold erB; rw [if_neg hb]
    have HE := Lib.hid he
    clear hb he
    go_enter Try.func38, Try.ntmps38
    go_wp2_with fail
    refine (range_calls w0 _ b HB.out).mono ?_
    rintro r w1 ⟨rfl, hB1, hK1⟩
    rw [HE.out]
    have HB1 := Lib.hid hB1; have HK1 := Lib.hid (HK.out.then_ hK1 (fun _ h => h.elim))
    clear hB1 hK1
    go_wp2_with fail
    go_ret2
    exact ⟨_, by rw [if_neg (by rw [HE.out]; simp)]; rfl, by rw [if_neg (by rw [HE.out]; simp)]; exact Kd.R_nil _ _ _ _ _, HB1.out, HK1.out⟩
end Go.Proofs.Ytmmmhkeecaangaa.Wire
namespace Go.Proofs.Ytmmmhkeecaangaa.Wire
open Go.RowKit Go.Maps Go.Proofs.YtmmmhkeecaangaaW.PrintWords Go.Proofs.YtmmmhkeecaangaaW.PrintLast Go.Proofs.YtmmmhkeecaangaaW.PrintMore
set_option linter.unusedVariables false
set_option linter.unusedSimpArgs false

def goodB (h c : Int) : Bool := decide (1 ≤ h) && (decide (h ≤ 3) && (decide (0 ≤ c) && decide (c ≤ h)))
theorem goodB_iff (h c : Int) : goodB h c = true ↔ (1 ≤ h ∧ h ≤ 3 ∧ 0 ≤ c ∧ c ≤ h) := by simp [goodB]
def allowB (h c o : Int) : Bool := goodB h c && (decide (c ≤ o) && decide (o ≤ h))
theorem rangeI_step (lo hi : Int) (k : Nat) (h : k < (rangeI lo hi).length) : (rangeI lo hi).take (k + 1) = (rangeI lo hi).take k ++ [lo + (k : Int)] := by
  rw [List.take_add_one, List.getElem?_eq_getElem h]
  have := rangeI_at lo hi k h
  rw [List.getD, List.getElem?_eq_getElem h] at this
  simp at this
  simp [this]
theorem good_calls (w : World) (h c : Int) : Calls Try.prog 33 #[.int .i64 h, .int .i64 c] w (fun r w' => r = .returned (.bool (goodB h c)) ∧ w = w') := by
  by_cases q0 : 1 ≤ h
  · have d0 : decide (1 ≤ h) = true := decide_eq_true q0
    by_cases q1 : h ≤ 3
    · have d1 : decide (h ≤ 3) = true := decide_eq_true q1
      by_cases q2 : 0 ≤ c
      · have d2 : decide (0 ≤ c) = true := decide_eq_true q2
        by_cases q3 : c ≤ h
        · have d3 : decide (c ≤ h) = true := decide_eq_true q3
          have HR := Lib.hid (show (goodB h c) = true by simp [goodB]; omega)
          clear q0 q1 q2 q3
          go_enter Try.func33, Try.ntmps33
          go_wp2_with fail
          go_ret
          exact ⟨by rw [HR.out]; rfl, rfl⟩
        · have d3 : decide (c ≤ h) = false := decide_eq_false q3
          have HR := Lib.hid (show (goodB h c) = false by simp [goodB]; omega)
          clear q0 q1 q2 q3
          go_enter Try.func33, Try.ntmps33
          go_wp2_with fail
          go_ret
          exact ⟨by rw [HR.out]; rfl, rfl⟩
      · have d2 : decide (0 ≤ c) = false := decide_eq_false q2
        have HR := Lib.hid (show (goodB h c) = false by simp [goodB]; omega)
        clear q0 q1 q2
        go_enter Try.func33, Try.ntmps33
        go_wp2_with fail
        go_ret
        exact ⟨by rw [HR.out]; rfl, rfl⟩
    · have d1 : decide (h ≤ 3) = false := decide_eq_false q1
      have HR := Lib.hid (show (goodB h c) = false by simp [goodB]; omega)
      clear q0 q1
      go_enter Try.func33, Try.ntmps33
      go_wp2_with fail
      go_ret
      exact ⟨by rw [HR.out]; rfl, rfl⟩
  · have d0 : decide (1 ≤ h) = false := decide_eq_false q0
    have HR := Lib.hid (show (goodB h c) = false by simp [goodB]; omega)
    clear q0
    go_enter Try.func33, Try.ntmps33
    go_wp2_with fail
    go_ret
    exact ⟨by rw [HR.out]; rfl, rfl⟩
theorem refGood_calls (w : World) (h c : Int) : Calls Try.prog 34 #[.int .i64 h, .int .i64 c] w (fun r w' => r = .returned (.bool (goodB h c)) ∧ w = w') := by
  by_cases q0 : 1 ≤ h
  · have d0 : decide (1 ≤ h) = true := decide_eq_true q0
    by_cases q1 : h ≤ 3
    · have d1 : decide (h ≤ 3) = true := decide_eq_true q1
      by_cases q2 : 0 ≤ c
      · have d2 : decide (0 ≤ c) = true := decide_eq_true q2
        by_cases q3 : c ≤ h
        · have d3 : decide (c ≤ h) = true := decide_eq_true q3
          have HR := Lib.hid (show (goodB h c) = true by simp [goodB]; omega)
          clear q0 q1 q2 q3
          go_enter Try.func34, Try.ntmps34
          go_wp2_with fail
          go_ret
          exact ⟨by rw [HR.out]; rfl, rfl⟩
        · have d3 : decide (c ≤ h) = false := decide_eq_false q3
          have HR := Lib.hid (show (goodB h c) = false by simp [goodB]; omega)
          clear q0 q1 q2 q3
          go_enter Try.func34, Try.ntmps34
          go_wp2_with fail
          go_ret
          exact ⟨by rw [HR.out]; rfl, rfl⟩
      · have d2 : decide (0 ≤ c) = false := decide_eq_false q2
        have HR := Lib.hid (show (goodB h c) = false by simp [goodB]; omega)
        clear q0 q1 q2
        go_enter Try.func34, Try.ntmps34
        go_wp2_with fail
        go_ret
        exact ⟨by rw [HR.out]; rfl, rfl⟩
    · have d1 : decide (h ≤ 3) = false := decide_eq_false q1
      have HR := Lib.hid (show (goodB h c) = false by simp [goodB]; omega)
      clear q0 q1
      go_enter Try.func34, Try.ntmps34
      go_wp2_with fail
      go_ret
      exact ⟨by rw [HR.out]; rfl, rfl⟩
  · have d0 : decide (1 ≤ h) = false := decide_eq_false q0
    have HR := Lib.hid (show (goodB h c) = false by simp [goodB]; omega)
    clear q0
    go_enter Try.func34, Try.ntmps34
    go_wp2_with fail
    go_ret
    exact ⟨by rw [HR.out]; rfl, rfl⟩
theorem allowed_calls (w : World) (h c o : Int) : Calls Try.prog 13 #[.int .i64 h, .int .i64 c, .int .i64 o] w (fun r w' => r = .returned (.bool (allowB h c o)) ∧ w = w') := by
  have HG := Lib.hid (good_calls w h c)
  unfold allowB
  cases hg : goodB h c with
  | false =>
    rw [hg] at HG
    clear hg
    go_enter Try.func13, Try.ntmps13
    go_wp2_with (first | (go_at_call 33; refine HG.out.mono ?_; rintro r w1 ⟨rfl, rfl⟩))
    go_ret
    exact ⟨rfl, rfl⟩
  | true =>
    rw [hg] at HG
    clear hg
    by_cases q : c ≤ o
    · have d1 : decide (c ≤ o) = true := decide_eq_true q
      rw [d1]
      clear q
      go_enter Try.func13, Try.ntmps13
      go_wp2_with (first | (go_at_call 33; refine HG.out.mono ?_; rintro r w1 ⟨rfl, rfl⟩))
      go_ret
      exact ⟨rfl, rfl⟩
    · have d1 : decide (c ≤ o) = false := decide_eq_false q
      rw [d1]
      clear q
      go_enter Try.func13, Try.ntmps13
      go_wp2_with (first | (go_at_call 33; refine HG.out.mono ?_; rintro r w1 ⟨rfl, rfl⟩))
      go_ret
      exact ⟨rfl, rfl⟩
theorem refAllowed_calls (w : World) (h c o : Int) : Calls Try.prog 14 #[.int .i64 h, .int .i64 c, .int .i64 o] w (fun r w' => r = .returned (.bool (allowB h c o)) ∧ w = w') := by
  have HG := Lib.hid (refGood_calls w h c)
  unfold allowB
  cases hg : goodB h c with
  | false =>
    rw [hg] at HG
    clear hg
    go_enter Try.func14, Try.ntmps14
    go_wp2_with (first | (go_at_call 34; refine HG.out.mono ?_; rintro r w1 ⟨rfl, rfl⟩))
    go_ret
    exact ⟨rfl, rfl⟩
  | true =>
    rw [hg] at HG
    clear hg
    by_cases q : c ≤ o
    · have d1 : decide (c ≤ o) = true := decide_eq_true q
      rw [d1]
      clear q
      go_enter Try.func14, Try.ntmps14
      go_wp2_with (first | (go_at_call 34; refine HG.out.mono ?_; rintro r w1 ⟨rfl, rfl⟩))
      go_ret
      exact ⟨rfl, rfl⟩
    · have d1 : decide (c ≤ o) = false := decide_eq_false q
      rw [d1]
      clear q
      go_enter Try.func14, Try.ntmps14
      go_wp2_with (first | (go_at_call 34; refine HG.out.mono ?_; rintro r w1 ⟨rfl, rfl⟩))
      go_ret
      exact ⟨rfl, rfl⟩

def OptPost (w0 w : World) (h c : Int) (r : Ending) (w' : World) : Prop :=
  ∃ v', r = .returned (.tuple #[v', .int .i64 (if goodB h c = true then 0 else 2)]) ∧ (Kd.int .i64).R 3 w' w0.heap.size (fun k => w.heap.size ≤ k) v' (if goodB h c = true then rangeI c h else []) ∧ Below w0.heap.size w0 w' ∧ Kept w w' (fun _ => False)

set_option maxHeartbeats 1000000 in
theorem options_calls (w0 w : World) (h c : Int) (hB : Below w0.heap.size w0 w) : Calls Try.prog 10 #[.int .i64 h, .int .i64 c] w (OptPost w0 w h c) := by
  have HG := Lib.hid (good_calls w h c)
  have HB := Lib.hid hB
  clear hB
  unfold OptPost
  cases hg : goodB h c with
  | false =>
    rw [hg] at HG
    clear hg
    go_enter Try.func10, Try.ntmps10
    go_wp2_with (first | (go_at_call 33; refine HG.out.mono ?_; rintro r w1 ⟨rfl, rfl⟩))
    go_ret2
    exact ⟨_, rfl, Kd.R_nil _ _ _ _ _, HB.out, Kept.refl _ _⟩
  | true =>
    obtain ⟨g1, g2, g3, g4⟩ := (goodB_iff h c).1 hg
    rw [hg] at HG
    clear hg
    have HRS := Lib.hid (rangeI_step c h)
    have HLL := rangeI_len c h
    generalize hLr : rangeI c h = Lr at HRS HLL
    have hln : (Lr.length : Int) = h - c + 1 := by rw [HLL]; omega
    clear hLr HLL
    have hw1 : IntKind.i64.wrap (h - c) = h - c := by rw [IntKind.wrap_i64]; omega
    have hw2 : IntKind.i64.wrap (h - c + 1) = h - c + 1 := by rw [IntKind.wrap_i64]; omega
    go_enter Try.func10, Try.ntmps10
    go_wp2_with (first | (go_at_call 33; refine HG.out.mono ?_; rintro r w1 ⟨rfl, rfl⟩))
    go_loopg [6, 16] Lr.length (fun g v6 v16 w' => ∃ k : Nat, v16 = .int .i64 (k : Int) ∧ k ≤ Lr.length ∧ Aside0 (g + k = Lr.length) ∧ Aside0 ((Kd.int .i64).R 3 w' w0.heap.size (fun k => w.heap.size ≤ k) v6 (Lr.take k)) ∧ Aside0 (Kept w w' (fun _ => False)) ∧ Aside0 (Below w0.heap.size w0 w'))
    case atStart => exact ⟨0, by simp, Nat.zero_le _, ⟨rfl⟩, ⟨Kd.R_nil _ _ _ _ _⟩, ⟨Kept.refl _ _⟩, ⟨HB.out⟩⟩
    case round =>
      obtain ⟨k, rfl, hk, HM, HO, HK, HB⟩ := hrel
      by_cases hlt : k < Lr.length
      · have q1 : decide ((k : Int) < h - c + 1) = true := decide_eq_true (by omega)
        have HT := Lib.hid (HRS.out k hlt)
        have hll : (Lr.take k).length ≤ 10 := by rw [List.length_take]; omega
        have hw3 : IntKind.i64.wrap (c + (k : Int)) = c + (k : Int) := by rw [IntKind.wrap_i64]; omega
        have hw4 : IntKind.i64.wrap (c + (k : Int) + 1) = c + (k : Int) + 1 := by rw [IntKind.wrap_i64]; omega
        generalize Lr.take k = L at HO HT hll
        obtain ⟨Au, cu, rfl⟩ := Kd.R_slice HO.out
        go_wp2_with (first | ((with_reducible refine gate_builtin (b := .append) (xs := #[.tmp 19, .tmp 23]) rfl ?_); at_builtin; (refine Kd.R_append (Kd.int .i64) (w0 := w0) w0.heap.size rfl (.tmp 19) (.tmp 23) 22 3 (.int .i64 0) 8 rfl Try.underlying22 infoI rfl (by decide) (by omega) (.slice Au L.length cu) L (c + (k : Int)) [.int .i64 (c + (k : Int))] (fun k => w.heap.size ≤ k) (fun _ => False) rfl rfl ?aP (fun _ hk => hk.elim) ?aF ?aO ?aB ?aS ?aL ?_; (case aP => exact rfl); (case aB => exact (by repeat (first | (with_reducible first | exact HB.out | apply below_alloc | apply pw_below_drewN | apply below_drew1) | exact HB.out))); (case aF => exact (fun k hk => Nat.le_trans HK.out.1 hk)); (case aO => first | exact HO.out | exact (by (with_reducible repeat (first | apply Kd.R_alloc | apply Kd.R_drewN | apply Kd.R_drew)); exact HO.out)); (case aS => exact (below_size (by repeat (first | (with_reducible first | exact HB.out | apply below_alloc | apply pw_below_drewN | apply below_drew1) | exact HB.out)))); (case aL => exact (by omega)); intro v1 w1 hO1 hB1 hG1 hA1; have HO1 := Lib.hid hO1; have HB1 := Lib.hid hB1; have HG1 := Lib.hid hG1; clear hO1 hB1 hG1 hA1)))
        have HK3 := Lib.hid (Kept.of_grown HG1.out HK.out (fun k hk => .inr (HO.out.1 k hk)))
        go_roundg (Lr.length - (k + 1))
        case measure => have := HM.out; omega
        case rel => exact ⟨k + 1, by go_num, by omega, ⟨by omega⟩, ⟨by rw [HT.out]; exact HO1.out⟩, ⟨HK3.out⟩, ⟨HB1.out⟩⟩
      · have q1 : decide ((k : Int) < h - c + 1) = false := decide_eq_false (by omega)
        have e : Lr.take k = Lr := List.take_of_length_le (by omega)
        have ho := HO.out
        rw [e] at ho
        have HO1 := Lib.hid ho
        clear ho e HO
        go_wp2_with fail
        go_ret2
        exact ⟨_, rfl, HO1.out, HB.out, HK.out⟩

set_option maxHeartbeats 1000000 in
theorem refOptions_calls (w0 w : World) (h c : Int) (hB : Below w0.heap.size w0 w) : Calls Try.prog 11 #[.int .i64 h, .int .i64 c] w (OptPost w0 w h c) := by
  have HG := Lib.hid (refGood_calls w h c)
  have HB := Lib.hid hB
  clear hB
  unfold OptPost
  cases hg : goodB h c with
  | false =>
    rw [hg] at HG
    clear hg
    go_enter Try.func11, Try.ntmps11
    go_wp2_with (first | (go_at_call 34; refine HG.out.mono ?_; rintro r w1 ⟨rfl, rfl⟩))
    go_ret2
    exact ⟨_, rfl, Kd.R_nil _ _ _ _ _, HB.out, Kept.refl _ _⟩
  | true =>
    obtain ⟨g1, g2, g3, g4⟩ := (goodB_iff h c).1 hg
    rw [hg] at HG
    clear hg
    have HRS := Lib.hid (rangeI_step c h)
    have HLL := rangeI_len c h
    generalize hLr : rangeI c h = Lr at HRS HLL
    have hln : (Lr.length : Int) = h - c + 1 := by rw [HLL]; omega
    clear hLr HLL
    have hw1 : IntKind.i64.wrap (h - c) = h - c := by rw [IntKind.wrap_i64]; omega
    have hw2 : IntKind.i64.wrap (h - c + 1) = h - c + 1 := by rw [IntKind.wrap_i64]; omega
    go_enter Try.func11, Try.ntmps11
    go_wp2_with (first | (go_at_call 34; refine HG.out.mono ?_; rintro r w1 ⟨rfl, rfl⟩))
    go_loopg [6, 7] Lr.length (fun g v6 v7 w' => ∃ k : Nat, v7 = .int .i64 (c + (k : Int)) ∧ k ≤ Lr.length ∧ Aside0 (g + k = Lr.length) ∧ Aside0 ((Kd.int .i64).R 3 w' w0.heap.size (fun k => w.heap.size ≤ k) v6 (Lr.take k)) ∧ Aside0 (Kept w w' (fun _ => False)) ∧ Aside0 (Below w0.heap.size w0 w'))
    case atStart => exact ⟨0, by simp, Nat.zero_le _, ⟨rfl⟩, ⟨Kd.R_nil _ _ _ _ _⟩, ⟨Kept.refl _ _⟩, ⟨HB.out⟩⟩
    case round =>
      obtain ⟨k, rfl, hk, HM, HO, HK, HB⟩ := hrel
      by_cases hlt : k < Lr.length
      · have q1 : decide (c + (k : Int) ≤ h) = true := decide_eq_true (by omega)
        have HT := Lib.hid (HRS.out k hlt)
        have hll : (Lr.take k).length ≤ 10 := by rw [List.length_take]; omega
        have hw3 : IntKind.i64.wrap (c + (k : Int)) = c + (k : Int) := by rw [IntKind.wrap_i64]; omega
        have hw4 : IntKind.i64.wrap (c + (k : Int) + 1) = c + (k : Int) + 1 := by rw [IntKind.wrap_i64]; omega
        generalize Lr.take k = L at HO HT hll
        obtain ⟨Au, cu, rfl⟩ := Kd.R_slice HO.out
        go_wp2_with (first | ((with_reducible refine gate_builtin (b := .append) (xs := #[.tmp 18, .tmp 20]) rfl ?_); at_builtin; (refine Kd.R_append (Kd.int .i64) (w0 := w0) w0.heap.size rfl (.tmp 18) (.tmp 20) 22 3 (.int .i64 0) 8 rfl Try.underlying22 infoI rfl (by decide) (by omega) (.slice Au L.length cu) L (c + (k : Int)) [.int .i64 (c + (k : Int))] (fun k => w.heap.size ≤ k) (fun _ => False) rfl rfl ?aP (fun _ hk => hk.elim) ?aF ?aO ?aB ?aS ?aL ?_; (case aP => exact rfl); (case aB => exact (by repeat (first | (with_reducible first | exact HB.out | apply below_alloc | apply pw_below_drewN | apply below_drew1) | exact HB.out))); (case aF => exact (fun k hk => Nat.le_trans HK.out.1 hk)); (case aO => first | exact HO.out | exact (by (with_reducible repeat (first | apply Kd.R_alloc | apply Kd.R_drewN | apply Kd.R_drew)); exact HO.out)); (case aS => exact (below_size (by repeat (first | (with_reducible first | exact HB.out | apply below_alloc | apply pw_below_drewN | apply below_drew1) | exact HB.out)))); (case aL => exact (by omega)); intro v1 w1 hO1 hB1 hG1 hA1; have HO1 := Lib.hid hO1; have HB1 := Lib.hid hB1; have HG1 := Lib.hid hG1; clear hO1 hB1 hG1 hA1)))
        have HK3 := Lib.hid (Kept.of_grown HG1.out HK.out (fun k hk => .inr (HO.out.1 k hk)))
        go_roundg (Lr.length - (k + 1))
        case measure => have := HM.out; omega
        case rel => exact ⟨k + 1, by congr 1; omega, by omega, ⟨by omega⟩, ⟨by rw [HT.out]; exact HO1.out⟩, ⟨HK3.out⟩, ⟨HB1.out⟩⟩
      · have q1 : decide (c + (k : Int) ≤ h) = false := decide_eq_false (by omega)
        have e : Lr.take k = Lr := List.take_of_length_le (by omega)
        have ho := HO.out
        rw [e] at ho
        have HO1 := Lib.hid ho
        clear ho e HO
        go_wp2_with fail
        go_ret2
        exact ⟨_, rfl, HO1.out, HB.out, HK.out⟩
end Go.Proofs.Ytmmmhkeecaangaa.Wire
namespace Go.Proofs.Ytmmmhkeecaangaa.Wire
open Go.RowKit Go.Maps Go.Proofs.YtmmmhkeecaangaaW.PrintWords Go.Proofs.YtmmmhkeecaangaaW.PrintLast Go.Proofs.YtmmmhkeecaangaaW.PrintMore
set_option linter.unusedVariables false
set_option linter.unusedSimpArgs false

/-- Is an option shut under a target? -/
def shutB (n least o : Int) : Bool := (o != 0) && decide (((chansB o n).length : Int) < least)
/-- The closure's two variables. -/
def OpenVars (w : World) (bt bl : Nat) (n least : Int) : Prop := w.heap[bt]? = some (.cells #[.int .i64 n] 32 (0, 0)) ∧ w.heap[bl]? = some (.cells #[.int .i64 least] 3 (0, 0))
theorem OpenVars.kept {w w' : World} {bt bl : Nat} {n least : Int} {S : Nat → Prop} (h : OpenVars w bt bl n least) (hk : Kept w w' S) (h1 : ¬ S bt) (h2 : ¬ S bl) : OpenVars w' bt bl n least := ⟨blk_kept h.1 hk h1, blk_kept h.2 hk h2⟩

theorem open1_calls (w0 w : World) (bt bl : Nat) (n least o : Int) (hV : OpenVars w bt bl n least) (ht : isTarget n = true) (ho : 0 ≤ o ∧ o ≤ 3) (hB : Below w0.heap.size w0 w) :
    Calls Try.prog 37 #[.int .i64 o, .pointer (some ⟨bt, 0, none⟩), .pointer (some ⟨bl, 0, none⟩)] w (fun r w' => r = .returned (.bool (shutB n least o)) ∧ Below w0.heap.size w0 w' ∧ Kept w w' (fun _ => False)) := by
  have hts := target_small ht
  have HCH := Lib.hid (channels_calls w0 w o n (by omega) (by omega) hB)
  have hg : w.cell? ⟨bt, 0, none⟩ = some (.int .i64 n) := (blk_cell hV.1 0).trans rfl
  have HV := Lib.hid hV
  have HT := Lib.hid ht
  clear hV hB ht
  by_cases hz : o = 0
  · subst hz
    unfold ChanPost at HCH
    rw [if_neg (by simp [erB]), if_neg (by simp [erB])] at HCH
    go_enter Try.func37, Try.ntmps37
    go_wp2_with fail
    refine HCH.out.mono ?_
    rintro r w1 ⟨v1, rfl, hO, hB1, hK1⟩
    have HB1 := Lib.hid hB1; have HK1 := Lib.hid hK1
    clear hO hB1 hK1
    go_wp2_with fail
    go_ret
    exact ⟨rfl, HB1.out, HK1.out⟩
  · have he : erB o = 0 := by unfold erB; rw [if_pos (by omega)]
    have hne : (o != 0) = true := by simpa using hz
    unfold ChanPost at HCH
    rw [if_pos ⟨he, HT.out⟩, if_pos ⟨he, HT.out⟩] at HCH
    have HS := Lib.hid (show shutB n least o = decide (((chansB o n).length : Int) < least) by unfold shutB; rw [hne]; rfl)
    generalize chansB o n = L at HCH HS
    clear he hz
    go_enter Try.func37, Try.ntmps37
    go_wp2_with fail
    refine HCH.out.mono ?_
    rintro r w1 ⟨v1, rfl, hO, hB1, hK1⟩
    obtain ⟨A1, c1, rfl⟩ := Kd.R_slice hO
    have hl : w1.cell? ⟨bl, 0, none⟩ = some (.int .i64 least) := (blk_cell (HV.out.kept hK1 id id).2 0).trans rfl
    have HB1 := Lib.hid hB1; have HK1 := Lib.hid hK1
    clear hO hB1 hK1
    go_wp2_with fail
    go_ret
    exact ⟨by rw [HS.out]; rfl, HB1.out, HK1.out⟩

theorem getD_memI {l : List Int} {k : Nat} (h : k < l.length) : l.getD k 0 ∈ l := by
  have e : l.getD k 0 = l[k] := by simp [List.getD, h]
  rw [e]; exact List.getElem_mem h
/-- A function value that answers p, and writes nothing that is known. -/
def Answers (w0 : World) (f : FuncId) (cap : Array Value) (p : Int → Bool) (dom : Int → Prop) (Inv : World → Prop) : Prop :=
  ∀ w o, Below w0.heap.size w0 w → Inv w → dom o → Calls Try.prog f (#[.int .i64 o] ++ cap) w (fun r w' => r = .returned (.bool (p o)) ∧ Below w0.heap.size w0 w' ∧ Kept w w' (fun _ => False))

/-- The first index whose element answers true, from k on. -/
def findFrom (p : Int → Bool) : List Int → Nat → Int
  | [], _ => -1
  | x :: l, k => if p x = true then (k : Int) else findFrom p l (k + 1)
set_option maxHeartbeats 1000000 in
theorem indexFunc_calls (w0 w : World) (f : FuncId) (g0 g1 : Value) (p : Int → Bool) (dom : Int → Prop) (Inv : World → Prop) (hInv : ∀ w w', Inv w → Kept w w' (fun _ => False) → Inv w')
    (hen : ∀ (w : World) (o : Int), (callFunc f #[.int .i64 o, g0, g1]).run Try.prog w = .ok (.enter f #[.int .i64 o, g0, g1]) w)
    (hans : Answers w0 f #[g0, g1] p dom Inv) (l : List Int) (A : Option Addr) (c : Nat) (hB : Below w0.heap.size w0 w) (hI : Inv w) (hC : (Kd.int .i64).C w A l.length l) (hd : ∀ x ∈ l, dom x) (hl : l.length ≤ 1000000) :
    Calls Try.prog 54 #[.slice A l.length c, .func (.func f) #[] #[g0, g1]] w (fun r w' => r = .returned (.int .i64 (findFrom p l 0)) ∧ Below w0.heap.size w0 w' ∧ Kept w w' (fun _ => False)) := by
  have HB := Lib.hid hB; have HI := Lib.hid hI; have HC := Lib.hid hC; have HD := Lib.hid hd; have HA := Lib.hid hans; have HV := Lib.hid hInv
  clear hB hI hC hd hans hInv
  go_enter Try.func54, Try.ntmps54
  go_wp2_with fail
  go_loopg [8] l.length (fun g v8 w' => ∃ k : Nat, v8 = .int .i64 k ∧ k ≤ l.length ∧ Aside0 (g + k = l.length) ∧ Aside0 (findFrom p l 0 = findFrom p (l.drop k) k) ∧ Aside0 (Kept w w' (fun _ => False)) ∧ Aside0 (Below w0.heap.size w0 w'))
  case atStart => exact ⟨0, rfl, Nat.zero_le _, ⟨rfl⟩, ⟨rfl⟩, ⟨Kept.refl _ _⟩, ⟨HB.out⟩⟩
  case round =>
    obtain ⟨k, rfl, hk, HM, HF, HK, HBr⟩ := hrel
    by_cases h : k < l.length
    · have q1 : decide ((k : Int) < (l.length : Int)) = true := decide_eq_true (by omega)
      obtain ⟨ad, hA, hcell⟩ := C_at (C_none HC.out HK.out) k h
      subst hA
      have hdk := Lib.hid (HD.out (l.getD k 0) (getD_memI h))
      have HS := Lib.hid (show findFrom p (l.drop k) k = (if p (l.getD k 0) = true then (k : Int) else findFrom p (l.drop (k + 1)) (k + 1)) by
        rw [List.drop_eq_getElem_cons h]
        have e : l.getD k 0 = l[k] := by simp [List.getD, h]
        rw [e]; rfl)
      generalize l.getD k 0 = x at hcell hdk HS
      have HAx := Lib.hid (HA.out wr x HBr.out (HV.out _ _ HI.out HK.out) hdk.out)
      have hax : (#[Value.int .i64 x] ++ #[g0, g1]) = #[.int .i64 x, g0, g1] := rfl
      rw [hax] at HAx
      obtain ⟨b, hb⟩ : ∃ b, p x = b := ⟨_, rfl⟩
      rw [hb] at HAx HS
      have henx := hen wr x
      clear hb hax
      cases b with
      | true =>
        go_wp2_with fail
        refine HAx.out.mono ?_
        rintro r w2 ⟨rfl, hB2, hK2⟩
        have HB2 := Lib.hid hB2; have HK2 := Lib.hid (HK.out.then_ hK2 (fun _ h => h.elim))
        clear hB2 hK2
        go_wp2_with fail
        go_ret
        exact ⟨by rw [HF.out, HS.out]; rfl, HB2.out, HK2.out⟩
      | false =>
        go_wp2_with fail
        refine HAx.out.mono ?_
        rintro r w2 ⟨rfl, hB2, hK2⟩
        have HB2 := Lib.hid hB2; have HK2 := Lib.hid (HK.out.then_ hK2 (fun _ h => h.elim))
        clear hB2 hK2
        go_wp2_with fail
        go_roundg (l.length - (k + 1))
        case measure => have := HM.out; omega
        case rel => exact ⟨k + 1, by go_num, by omega, ⟨by omega⟩, ⟨by rw [HF.out, HS.out]; rfl⟩, ⟨HK2.out⟩, ⟨HB2.out⟩⟩
    · have q1 : decide ((k : Int) < (l.length : Int)) = false := decide_eq_false (by omega)
      have HE := Lib.hid (show findFrom p l 0 = -1 by rw [HF.out, List.drop_eq_nil_of_le (by omega)]; rfl)
      go_wp2_with fail
      go_ret
      exact ⟨by rw [HE.out]; rfl, HBr.out, HK.out⟩
end Go.Proofs.Ytmmmhkeecaangaa.Wire
namespace Go.Proofs.Ytmmmhkeecaangaa.Wire
open Go
set_option linter.unusedVariables false
section
variable {P : Program} {ops : Array Oper} {Q : Exit → Act → World → Prop} {md : Region.Mode} {S S' : World → Prop}
/-- The condition on the world may be made stronger on the way. -/
theorem wpAnyH_strong (hs : ∀ w, S' w → S w) : ∀ {fuel : Nat} {listed : Array Bool} {a : Act} {w : World}, wpAnyH P md ops Q S' fuel listed a w → wpAnyH P md ops Q S fuel listed a w
  | 0, _, _, _, h => h
  | fuel + 1, _, _, _, h => ⟨h.1, fun i hi => wpOp_mono (fun a' w' h' => ⟨hs _ h'.1, wpAnyH_strong hs h'.2⟩) (h.2 i hi)⟩
theorem ready_some {listed : Array Bool} {i : Nat} (h : i ∈ Region.ready md ops listed) : ∃ o, ops[i]? = some o := by
  obtain ⟨_, o, ho, _⟩ := mem_ready.1 h; exact ⟨o, ho⟩
/-- Take number i first; the operation is handed over with its own text. -/
theorem wpAnyH_takeG {i : Nat} {fuel : Nat} {listed : Array Bool} {a : Act} {w : World}
    (hs : Region.noSelect ops = true) (hf : Region.free md ops listed i = true) (hr : (Region.ready md ops listed).contains i = true)
    (hQ : ∀ c (a : Act) d v w, Q (.panic c) (a.put d v) w → Q (.panic c) a w) (hS : S w)
    (h : ∀ oi, ops[i]? = some oi → ∃ v, Region.wanted oi (yielded ops a.tmps) = true ∧ (∀ w, S w → (execOp a.eval oi).run P w = .ok (.value v) w) ∧ wpAnyH P md ops Q S fuel (listed.setIfInBounds i true) (a.put oi.dst v) w) : wpAnyH P md ops Q S (fuel + 1) listed a w := by
  obtain ⟨o, ho⟩ := ready_some (i := i) (by simpa using hr)
  obtain ⟨v, h1, h2, h3⟩ := h o ho
  exact wpAnyH_take ho hs hf hr (fun c a w => hQ c a _ _ w) (.inl ⟨h1, h2⟩) hS h3
/-- The same for one that is not wanted. -/
theorem wpAnyH_offG {i : Nat} {fuel : Nat} {listed : Array Bool} {a : Act} {w : World}
    (hs : Region.noSelect ops = true) (hf : Region.free md ops listed i = true) (hr : (Region.ready md ops listed).contains i = true)
    (hQ : ∀ c (a : Act) d v w, Q (.panic c) (a.put d v) w → Q (.panic c) a w) (hS : S w)
    (h : ∀ oi, ops[i]? = some oi → Region.wanted oi (yielded ops a.tmps) = false ∧ wpAnyH P md ops Q S fuel (listed.setIfInBounds i true) (a.put oi.dst undef) w) : wpAnyH P md ops Q S (fuel + 1) listed a w := by
  obtain ⟨o, ho⟩ := ready_some (i := i) (by simpa using hr)
  obtain ⟨h1, h3⟩ := h o ho
  exact wpAnyH_take ho hs hf hr (fun c a w => hQ c a _ _ w) (.inr ⟨h1, rfl⟩) hS h3
/-- The one operation that may come up. -/
theorem wpAnyH_oneG {i : Nat} {fuel : Nat} {listed : Array Bool} {a : Act} {w : World} (hr : Region.ready md ops listed = [i])
    (h : ∀ oi, ops[i]? = some oi → ∀ K' : Act → World → Prop, Shut (∀ a w, S w → (S w → wpAnyH P md ops Q S fuel (listed.setIfInBounds i true) a w) → K' a w) → if Region.wanted oi (yielded ops a.tmps) = true then Oper.wp P oi a w K' Q else K' (a.put oi.dst undef) w) :
    wpAnyH P md ops Q S (fuel + 1) listed a w := by
  obtain ⟨o, ho⟩ := ready_some (md := md) (ops := ops) (listed := listed) (i := i) (by rw [hr]; simp)
  exact wpAnyH_ready hr (by simp) (AllReadyH.cons ho (h o ho) AllReadyH.nil)
end
section
open Go.Proofs.YtmmmhkeecaangaaW.PrintLast
variable {P : Program} {ops : Array Oper} {Q : Exit → Act → World → Prop} {md : Region.Mode} {S : World → Prop} {ds : List Nat}
/-- The same three moves where some operations come last, behind which nothing is shown. -/
theorem lastTakeG {i : Nat} {fuel : Nat} {listed : Array Bool} {a : Act} {w : World}
    (hs : Region.noSelect ops = true) (hf : Region.free md ops listed i = true) (hr : (Region.ready md ops listed).contains i = true) (hc : Region.closedB md ops listed = true) (hl : Region.lastB md ops listed ds i = true)
    (hQ : ∀ c (a : Act) d v w, Q (.panic c) (a.put d v) w → Q (.panic c) a w) (hS : S w)
    (h : ∀ oi, ops[i]? = some oi → ∃ v, Region.wanted oi (yielded ops a.tmps) = true ∧ (∀ w, S w → (execOp a.eval oi).run P w = .ok (.value v) w) ∧ wpAnyLast P md ops Q S ds fuel (listed.setIfInBounds i true) (a.put oi.dst v) w) : wpAnyLast P md ops Q S ds (fuel + 1) listed a w := by
  obtain ⟨o, ho⟩ := ready_some (i := i) (by simpa using hr)
  obtain ⟨v, h1, h2, h3⟩ := h o ho
  exact wpAnyLast_take ho hs hf hr hc hl (fun c a w => hQ c a _ _ w) (.inl ⟨h1, h2⟩) hS h3
theorem lastOneG {i : Nat} {fuel : Nat} {listed : Array Bool} {a : Act} {w : World} (hr : Region.ready md ops listed = [i]) (hd : i ∉ ds)
    (h : ∀ oi, ops[i]? = some oi → ∀ K' : Act → World → Prop, Shut (∀ a w, S w → (S w → wpAnyLast P md ops Q S ds fuel (listed.setIfInBounds i true) a w) → K' a w) → if Region.wanted oi (yielded ops a.tmps) = true then Oper.wp P oi a w K' Q else K' (a.put oi.dst undef) w) :
    wpAnyLast P md ops Q S ds (fuel + 1) listed a w := by
  obtain ⟨o, ho⟩ := ready_some (md := md) (ops := ops) (listed := listed) (i := i) (by rw [hr]; simp)
  exact wpAnyLast_ready hr (by simp) (AllReadyL.cons ho hd (h o ho) AllReadyL.nil)
theorem lastLastG {i : Nat} {fuel : Nat} {listed : Array Bool} {a : Act} {w : World} (hr : Region.ready md ops listed = [i]) (hd : i ∈ ds)
    (h : ∀ oi, ops[i]? = some oi → ∀ K' : Act → World → Prop, Shut (∀ a w, wpAnyLast P md ops Q S ds fuel (listed.setIfInBounds i true) a w → K' a w) → if Region.wanted oi (yielded ops a.tmps) = true then Oper.wp P oi a w K' Q else K' (a.put oi.dst undef) w) :
    wpAnyLast P md ops Q S ds (fuel + 1) listed a w := by
  obtain ⟨o, ho⟩ := ready_some (md := md) (ops := ops) (listed := listed) (i := i) (by rw [hr]; simp)
  exact wpAnyLast_ready hr (by simp) (AllReadyL.cons_last ho hd (h o ho) AllReadyL.nil)
end
end Go.Proofs.Ytmmmhkeecaangaa.Wire
namespace Go.Proofs.Ytmmmhkeecaangaa.Wire
open Go.RowKit Go.Maps Go.Proofs.YtmmmhkeecaangaaW.PrintWords Go.Proofs.YtmmmhkeecaangaaW.PrintLast Go.Proofs.YtmmmhkeecaangaaW.PrintMore
set_option linter.unusedVariables false
set_option linter.unusedSimpArgs false

theorem findFrom_any (p : Int → Bool) : ∀ (l : List Int) (k : Nat), decide (0 ≤ findFrom p l k) = l.any p
  | [], k => by simp [findFrom]
  | x :: l, k => by
    unfold findFrom
    cases h : p x with
    | true => simp [h]
    | false => simp [h]; exact findFrom_any p l (k + 1)
theorem containsFunc_calls (w0 w : World) (f : FuncId) (g0 g1 : Value) (p : Int → Bool) (dom : Int → Prop) (Inv : World → Prop) (hInv : ∀ w w', Inv w → Kept w w' (fun _ => False) → Inv w')
    (hen : ∀ (w : World) (o : Int), (callFunc f #[.int .i64 o, g0, g1]).run Try.prog w = .ok (.enter f #[.int .i64 o, g0, g1]) w)
    (hans : Answers w0 f #[g0, g1] p dom Inv) (l : List Int) (A : Option Addr) (c : Nat) (hB : Below w0.heap.size w0 w) (hI : Inv w) (hC : (Kd.int .i64).C w A l.length l) (hd : ∀ x ∈ l, dom x) (hl : l.length ≤ 1000000) :
    Calls Try.prog 42 #[.slice A l.length c, .func (.func f) #[] #[g0, g1]] w (fun r w' => r = .returned (.bool (l.any p)) ∧ Below w0.heap.size w0 w' ∧ Kept w w' (fun _ => False)) := by
  have HX := Lib.hid (indexFunc_calls w0 w f g0 g1 p dom Inv hInv hen hans l A c hB hI hC hd hl)
  have HF := Lib.hid (findFrom_any p l 0)
  clear hInv hen hans hB hI hC hd
  generalize findFrom p l 0 = z at HX HF
  go_enter Try.func42, Try.ntmps42
  go_wp2_with fail
  refine HX.out.mono ?_
  rintro r w1 ⟨rfl, hB1, hK1⟩
  have HB1 := Lib.hid hB1; have HK1 := Lib.hid hK1
  clear hB1 hK1
  go_wp2_with fail
  go_ret
  exact ⟨by rw [← HF.out]; rfl, HB1.out, HK1.out⟩

/-- The reference's Same, at two lists that are equal. -/
theorem same_calls (w : World) (l : List Int) (A B : Option Addr) (c d : Nat) (hA : (Kd.int .i64).C w A l.length l) (hB : (Kd.int .i64).C w B l.length l) (hl : l.length ≤ 1000000000) :
    Calls Try.prog 12 #[.slice A l.length c, .slice B l.length d] w (fun r w' => r = .returned (.bool true) ∧ ∃ n, w' = w.drewN n) := by
  have HA := Lib.hid hA
  have HB := Lib.hid hB
  clear hA hB
  have hnn : ((l.length : Int) != (l.length : Int)) = false := by simp
  go_enter Try.func12, Try.ntmps12
  go_wp2_with fail
  go_loopg [5] l.length (fun g v5 w' => ∃ k : Nat, v5 = .int .i64 k ∧ k ≤ l.length ∧ Aside0 (g + k = l.length) ∧ ∃ n, w' = w.drewN n)
  case atStart => exact ⟨0, rfl, Nat.zero_le _, ⟨rfl⟩, 0, rfl⟩
  case round =>
    obtain ⟨k, rfl, hk, HM, n, rfl⟩ := hrel
    by_cases h : k < l.length
    · have c1 : decide ((k : Int) < (l.length : Int)) = true := decide_eq_true (by omega)
      obtain ⟨ad, hA, hc1⟩ := C_at (Kd.C_drewN HA.out n) k h
      obtain ⟨bd, hB, hc2⟩ := C_at (Kd.C_drewN HB.out n) k h
      have hd1 : ((w.drewN n).drew).cell? (ad.add k) = some (.int .i64 (l.getD k 0)) := hc1
      have hd2 : ((w.drewN n).drew).cell? (bd.add k) = some (.int .i64 (l.getD k 0)) := hc2
      generalize l.getD k 0 = x at hc1 hc2 hd1 hd2
      subst hA hB
      go_wp2_with fail
      refine wp_region_noPanic ?_
      refine wp_region_held_drew (S := fun W => W.cell? (ad.add k) = some (.int .i64 x) ∧ W.cell? (bd.add k) = some (.int .i64 x)) (by kernel_rfl) ⟨hd1, hd2⟩ (fun hS => ?_)
      clear hc1 hc2 hd1 hd2
      (refine wpAnyH_takeG (i := 0) (by kernel_rfl) (by kernel_rfl) (by kernel_rfl) (fun _ _ _ _ _ h => h) hS ?_; intro oi hoi; simp only [List.getElem?_toArray, List.getElem?_cons_succ, List.getElem?_cons_zero] at hoi; cases hoi; refine ⟨?_, by rfl, ?_, ?_⟩; rotate_left; (focus (intro wS hSw; skip; go_simp; (first | done | with_reducible rfl))); (try simp only [Act.put, List.setIfInBounds_toArray, List.set_cons_zero, List.set_cons_succ]))
      (refine wpAnyH_takeG (i := 1) (by kernel_rfl) (by kernel_rfl) (by kernel_rfl) (fun _ _ _ _ _ h => h) hS ?_; intro oi hoi; simp only [List.getElem?_toArray, List.getElem?_cons_succ, List.getElem?_cons_zero] at hoi; cases hoi; refine ⟨?_, by rfl, ?_, ?_⟩; rotate_left; (focus (intro wS hSw; skip; go_simp; (first | done | with_reducible rfl))); (try simp only [Act.put, List.setIfInBounds_toArray, List.set_cons_zero, List.set_cons_succ]))
      (refine wpAnyH_takeG (i := 2) (by kernel_rfl) (by kernel_rfl) (by kernel_rfl) (fun _ _ _ _ _ h => h) hS ?_; intro oi hoi; simp only [List.getElem?_toArray, List.getElem?_cons_succ, List.getElem?_cons_zero] at hoi; cases hoi; refine ⟨?_, by rfl, ?_, ?_⟩; rotate_left; (focus (intro wS hSw; skip; go_simp; (first | done | with_reducible rfl))); (try simp only [Act.put, List.setIfInBounds_toArray, List.set_cons_zero, List.set_cons_succ]))
      (refine wpAnyH_takeG (i := 3) (by kernel_rfl) (by kernel_rfl) (by kernel_rfl) (fun _ _ _ _ _ h => h) hS ?_; intro oi hoi; simp only [List.getElem?_toArray, List.getElem?_cons_succ, List.getElem?_cons_zero] at hoi; cases hoi; refine ⟨?_, by rfl, ?_, ?_⟩; rotate_left; (focus (intro wS hSw; obtain ⟨s1, s2⟩ := hSw; go_simp; (first | done | with_reducible rfl))); (try simp only [Act.put, List.setIfInBounds_toArray, List.set_cons_zero, List.set_cons_succ]))
      (refine wpAnyH_takeG (i := 4) (by kernel_rfl) (by kernel_rfl) (by kernel_rfl) (fun _ _ _ _ _ h => h) hS ?_; intro oi hoi; simp only [List.getElem?_toArray, List.getElem?_cons_succ, List.getElem?_cons_zero] at hoi; cases hoi; refine ⟨?_, by rfl, ?_, ?_⟩; rotate_left; (focus (intro wS hSw; skip; go_simp; (first | done | with_reducible rfl))); (try simp only [Act.put, List.setIfInBounds_toArray, List.set_cons_zero, List.set_cons_succ]))
      (refine wpAnyH_takeG (i := 5) (by kernel_rfl) (by kernel_rfl) (by kernel_rfl) (fun _ _ _ _ _ h => h) hS ?_; intro oi hoi; simp only [List.getElem?_toArray, List.getElem?_cons_succ, List.getElem?_cons_zero] at hoi; cases hoi; refine ⟨?_, by rfl, ?_, ?_⟩; rotate_left; (focus (intro wS hSw; skip; go_simp; (first | done | with_reducible rfl))); (try simp only [Act.put, List.setIfInBounds_toArray, List.set_cons_zero, List.set_cons_succ]))
      (refine wpAnyH_takeG (i := 6) (by kernel_rfl) (by kernel_rfl) (by kernel_rfl) (fun _ _ _ _ _ h => h) hS ?_; intro oi hoi; simp only [List.getElem?_toArray, List.getElem?_cons_succ, List.getElem?_cons_zero] at hoi; cases hoi; refine ⟨?_, by rfl, ?_, ?_⟩; rotate_left; (focus (intro wS hSw; skip; go_simp; (first | done | with_reducible rfl))); (try simp only [Act.put, List.setIfInBounds_toArray, List.set_cons_zero, List.set_cons_succ]))
      (refine wpAnyH_takeG (i := 7) (by kernel_rfl) (by kernel_rfl) (by kernel_rfl) (fun _ _ _ _ _ h => h) hS ?_; intro oi hoi; simp only [List.getElem?_toArray, List.getElem?_cons_succ, List.getElem?_cons_zero] at hoi; cases hoi; refine ⟨?_, by rfl, ?_, ?_⟩; rotate_left; (focus (intro wS hSw; obtain ⟨s1, s2⟩ := hSw; go_simp; (first | done | with_reducible rfl))); (try simp only [Act.put, List.setIfInBounds_toArray, List.set_cons_zero, List.set_cons_succ]))
      (refine wpAnyH_takeG (i := 8) (by kernel_rfl) (by kernel_rfl) (by kernel_rfl) (fun _ _ _ _ _ h => h) hS ?_; intro oi hoi; simp only [List.getElem?_toArray, List.getElem?_cons_succ, List.getElem?_cons_zero] at hoi; cases hoi; refine ⟨?_, by rfl, ?_, ?_⟩; rotate_left; (focus (intro wS hSw; skip; go_simp; (first | done | with_reducible rfl))); (try simp only [Act.put, List.setIfInBounds_toArray, List.set_cons_zero, List.set_cons_succ]))
      refine wpAnyH_done (by kernel_rfl) ?_ _
      refine NoPanic.normal ?_
      go_wp2_with fail
      go_roundg (l.length - (k + 1))
      case measure => have := HM.out; omega
      case rel => exact ⟨k + 1, by go_num, by omega, ⟨by omega⟩, n + 1, rfl⟩
    · have c1 : decide ((k : Int) < (l.length : Int)) = false := decide_eq_false (by omega)
      go_wp2_with fail
      go_ret
      exact ⟨rfl, n, rfl⟩
end Go.Proofs.Ytmmmhkeecaangaa.Wire
namespace Go.Proofs.Ytmmmhkeecaangaa.Wire
open Go.RowKit Go.Maps Go.Proofs.YtmmmhkeecaangaaW.PrintWords Go.Proofs.YtmmmhkeecaangaaW.PrintLast Go.Proofs.YtmmmhkeecaangaaW.PrintMore
set_option linter.unusedVariables false
set_option linter.unusedSimpArgs false

theorem blk_found (n : Int) : ∀ (m k : Nat), k < m → m ≤ 11 → n = tabL.getD k 0 → 0 < blk m n
  | 0, _, h, _, _ => by omega
  | m + 1, k, h, hm, e => by
    unfold blk
    by_cases q : n = tabL.getD m 0
    · rw [if_pos q]; omega
    · rw [if_neg q]
      have : k ≠ m := fun h => q (by rw [e, h])
      exact blk_found n m k (by omega) (by omega) e
def tabC : Array Value := #[.int .i64 24, .int .i64 23, .int .i64 21, .int .i64 19, .int .i64 18, .int .i64 14, .int .i64 13, .int .i64 12, .int .i64 10, .int .i64 8, .int .i64 7]

set_option maxHeartbeats 1000000 in
theorem refTarget_calls (w0 w : World) (n : Int) (hB : Below w0.heap.size w0 w) :
    Calls Try.prog 39 #[.agg #[.int .i64 n]] w (fun r w' => r = .returned (.bool (isTarget n)) ∧ Below w0.heap.size w0 w' ∧ Kept w w' (fun _ => False)) := by
  have HB := Lib.hid (below_alloc' (below_alloc' hB (.cells #[.int .i64 n] 32)) (.cells tabV 3))
  have HK := Lib.hid (((Kept.refl w (fun _ => False)).alloc (.cells #[.int .i64 n] 32)).alloc (.cells tabV 3))
  have HG := Lib.hid (show ((w.alloc (.cells #[.int .i64 n] 32)).alloc (.cells tabV 3)).heap[w.heap.size]? = some (.cells #[.int .i64 n] 32 (0, 0)) from blk_alloc (blk_new _ _) _)
  have HR := Lib.hid (show ((w.alloc (.cells #[.int .i64 n] 32)).alloc (.cells tabV 3)).heap[w.heap.size + 1]? = some (.cells tabV 3 (0, 0)) by have h := blk_new (w.alloc (.cells #[.int .i64 n] 32)) (.cells tabV 3); simpa using h)
  obtain ⟨wa, hwa⟩ : ∃ W, (w.alloc (.cells #[.int .i64 n] 32)).alloc (.cells tabV 3) = W := ⟨_, rfl⟩
  rw [hwa] at HB HK HG HR
  unfold tabV at hwa
  clear hB
  go_enter Try.func39, Try.ntmps39
  go_wp2_with fail
  clear hwa
  go_loopg [4] 11 (fun g v4 w' => ∃ k : Nat, v4 = .int .i64 k ∧ k ≤ 11 ∧ Aside0 (g + k = 11) ∧ Aside0 (blk k n = 0) ∧ ∃ m, w' = wa.drewN m)
  case atStart => exact ⟨0, rfl, by omega, ⟨rfl⟩, ⟨rfl⟩, 0, rfl⟩
  case round =>
    obtain ⟨k, rfl, hk, HM, HZ, m, rfl⟩ := hrel
    by_cases h : k < 11
    · have q1 : decide ((k : Int) < 11) = true := decide_eq_true (by omega)
      have hki : (k : Int) < 11 := by omega
      have hc0 : ∀ i, (wa.drewN i).cell? ⟨w.heap.size, 0, none⟩ = some (.int .i64 n) := fun i => (blk_cell HG.out 0).trans rfl
      have hc1 : ∀ i, (wa.drewN i).cell? (Addr.add ⟨w.heap.size + 1, 0, none⟩ k) = some (.int .i64 (tabL.getD k 0)) := fun i => by
        rw [add_plain]; exact (blk_cell (w := wa) HR.out k).trans (tabV_at k h)
      have hc2 : ∀ i, (wa.drewN i).cell? ⟨w.heap.size + 1, k, none⟩ = some (.int .i64 (tabL.getD k 0)) := fun i => (blk_cell (w := wa) HR.out k).trans (tabV_at k h)
      have HFD := Lib.hid (fun e => blk_found n 11 k h (by omega) e)
      have HST := Lib.hid (show n ≠ tabL.getD k 0 → blk (k + 1) n = blk k n from fun e => by show (if n = tabL.getD k 0 then _ else blk k n) = _; rw [if_neg e])
      generalize tabL.getD k 0 = x at hc1 hc2 HFD HST
      by_cases hx : x = n
      · have d1 : (x == n) = true := by simpa using hx
        have HT := Lib.hid (show isTarget n = true from decide_eq_true (HFD.out hx.symm))
        clear hx
        go_wp2_with fail
        refine wp_region_noPanic ?_
        refine wp_region_held_drew (S := fun W => ∃ i, W = wa.drewN i) (by kernel_rfl) ⟨m + 1, rfl⟩ (fun hS => ?_)
        have HC0 := Lib.hid hc0; have HC1 := Lib.hid hc1; have HC2 := Lib.hid hc2
        clear hc0 hc1 hc2
        (refine wpAnyH_takeG (i := 0) (by kernel_rfl) (by kernel_rfl) (by kernel_rfl) (fun _ _ _ _ _ h => h) hS ?_; intro oi hoi; simp only [List.getElem?_toArray, List.getElem?_cons_succ, List.getElem?_cons_zero] at hoi; cases hoi; refine ⟨?_, by rfl, ?_, ?_⟩; rotate_left; (focus (intro wS hSw; skip; go_simp; (first | done | with_reducible rfl))); (try simp only [Act.put, List.setIfInBounds_toArray, List.set_cons_zero, List.set_cons_succ]))
        (refine wpAnyH_takeG (i := 1) (by kernel_rfl) (by kernel_rfl) (by kernel_rfl) (fun _ _ _ _ _ h => h) hS ?_; intro oi hoi; simp only [List.getElem?_toArray, List.getElem?_cons_succ, List.getElem?_cons_zero] at hoi; cases hoi; refine ⟨?_, by rfl, ?_, ?_⟩; rotate_left; (focus (intro wS hSw; skip; go_simp; (first | done | with_reducible rfl))); (try simp only [Act.put, List.setIfInBounds_toArray, List.set_cons_zero, List.set_cons_succ]))
        (refine wpAnyH_takeG (i := 2) (by kernel_rfl) (by kernel_rfl) (by kernel_rfl) (fun _ _ _ _ _ h => h) hS ?_; intro oi hoi; simp only [List.getElem?_toArray, List.getElem?_cons_succ, List.getElem?_cons_zero] at hoi; cases hoi; refine ⟨?_, by rfl, ?_, ?_⟩; rotate_left; (focus (intro wS hSw; skip; go_simp; (first | done | with_reducible rfl))); (try simp only [Act.put, List.setIfInBounds_toArray, List.set_cons_zero, List.set_cons_succ]))
        (refine wpAnyH_takeG (i := 3) (by kernel_rfl) (by kernel_rfl) (by kernel_rfl) (fun _ _ _ _ _ h => h) hS ?_; intro oi hoi; simp only [List.getElem?_toArray, List.getElem?_cons_succ, List.getElem?_cons_zero] at hoi; cases hoi; refine ⟨?_, by rfl, ?_, ?_⟩; rotate_left; (focus (intro wS hSw; obtain ⟨i, rfl⟩ := hSw; have s1 := HC1.out i; have s2 := HC2.out i; go_simp; (first | done | with_reducible rfl))); (try simp only [Act.put, List.setIfInBounds_toArray, List.set_cons_zero, List.set_cons_succ]))
        (refine wpAnyH_takeG (i := 4) (by kernel_rfl) (by kernel_rfl) (by kernel_rfl) (fun _ _ _ _ _ h => h) hS ?_; intro oi hoi; simp only [List.getElem?_toArray, List.getElem?_cons_succ, List.getElem?_cons_zero] at hoi; cases hoi; refine ⟨?_, by rfl, ?_, ?_⟩; rotate_left; (focus (intro wS hSw; skip; go_simp; (first | done | with_reducible rfl))); (try simp only [Act.put, List.setIfInBounds_toArray, List.set_cons_zero, List.set_cons_succ]))
        (refine wpAnyH_takeG (i := 5) (by kernel_rfl) (by kernel_rfl) (by kernel_rfl) (fun _ _ _ _ _ h => h) hS ?_; intro oi hoi; simp only [List.getElem?_toArray, List.getElem?_cons_succ, List.getElem?_cons_zero] at hoi; cases hoi; refine ⟨?_, by rfl, ?_, ?_⟩; rotate_left; (focus (intro wS hSw; obtain ⟨i, rfl⟩ := hSw; have s1 := HC0.out i; go_simp; (first | done | with_reducible rfl))); (try simp only [Act.put, List.setIfInBounds_toArray, List.set_cons_zero, List.set_cons_succ]))
        (refine wpAnyH_takeG (i := 6) (by kernel_rfl) (by kernel_rfl) (by kernel_rfl) (fun _ _ _ _ _ h => h) hS ?_; intro oi hoi; simp only [List.getElem?_toArray, List.getElem?_cons_succ, List.getElem?_cons_zero] at hoi; cases hoi; refine ⟨?_, by rfl, ?_, ?_⟩; rotate_left; (focus (intro wS hSw; skip; go_simp; (first | done | with_reducible rfl))); (try simp only [Act.put, List.setIfInBounds_toArray, List.set_cons_zero, List.set_cons_succ]))
        refine wpAnyH_done (by kernel_rfl) ?_ _
        refine NoPanic.normal ?_
        go_wp2_with fail
        go_ret
        exact ⟨by rw [HT.out]; rfl, pw_below_drewN HB.out (m + 1), HK.out.drewN (m + 1)⟩
      · have d1 : (x == n) = false := by simpa using hx
        have HN := Lib.hid (HST.out (fun e => hx e.symm))
        clear hx
        go_wp2_with fail
        refine wp_region_noPanic ?_
        refine wp_region_held_drew (S := fun W => ∃ i, W = wa.drewN i) (by kernel_rfl) ⟨m + 1, rfl⟩ (fun hS => ?_)
        have HC0 := Lib.hid hc0; have HC1 := Lib.hid hc1; have HC2 := Lib.hid hc2
        clear hc0 hc1 hc2
        (refine wpAnyH_takeG (i := 0) (by kernel_rfl) (by kernel_rfl) (by kernel_rfl) (fun _ _ _ _ _ h => h) hS ?_; intro oi hoi; simp only [List.getElem?_toArray, List.getElem?_cons_succ, List.getElem?_cons_zero] at hoi; cases hoi; refine ⟨?_, by rfl, ?_, ?_⟩; rotate_left; (focus (intro wS hSw; skip; go_simp; (first | done | with_reducible rfl))); (try simp only [Act.put, List.setIfInBounds_toArray, List.set_cons_zero, List.set_cons_succ]))
        (refine wpAnyH_takeG (i := 1) (by kernel_rfl) (by kernel_rfl) (by kernel_rfl) (fun _ _ _ _ _ h => h) hS ?_; intro oi hoi; simp only [List.getElem?_toArray, List.getElem?_cons_succ, List.getElem?_cons_zero] at hoi; cases hoi; refine ⟨?_, by rfl, ?_, ?_⟩; rotate_left; (focus (intro wS hSw; skip; go_simp; (first | done | with_reducible rfl))); (try simp only [Act.put, List.setIfInBounds_toArray, List.set_cons_zero, List.set_cons_succ]))
        (refine wpAnyH_takeG (i := 2) (by kernel_rfl) (by kernel_rfl) (by kernel_rfl) (fun _ _ _ _ _ h => h) hS ?_; intro oi hoi; simp only [List.getElem?_toArray, List.getElem?_cons_succ, List.getElem?_cons_zero] at hoi; cases hoi; refine ⟨?_, by rfl, ?_, ?_⟩; rotate_left; (focus (intro wS hSw; skip; go_simp; (first | done | with_reducible rfl))); (try simp only [Act.put, List.setIfInBounds_toArray, List.set_cons_zero, List.set_cons_succ]))
        (refine wpAnyH_takeG (i := 3) (by kernel_rfl) (by kernel_rfl) (by kernel_rfl) (fun _ _ _ _ _ h => h) hS ?_; intro oi hoi; simp only [List.getElem?_toArray, List.getElem?_cons_succ, List.getElem?_cons_zero] at hoi; cases hoi; refine ⟨?_, by rfl, ?_, ?_⟩; rotate_left; (focus (intro wS hSw; obtain ⟨i, rfl⟩ := hSw; have s1 := HC1.out i; have s2 := HC2.out i; go_simp; (first | done | with_reducible rfl))); (try simp only [Act.put, List.setIfInBounds_toArray, List.set_cons_zero, List.set_cons_succ]))
        (refine wpAnyH_takeG (i := 4) (by kernel_rfl) (by kernel_rfl) (by kernel_rfl) (fun _ _ _ _ _ h => h) hS ?_; intro oi hoi; simp only [List.getElem?_toArray, List.getElem?_cons_succ, List.getElem?_cons_zero] at hoi; cases hoi; refine ⟨?_, by rfl, ?_, ?_⟩; rotate_left; (focus (intro wS hSw; skip; go_simp; (first | done | with_reducible rfl))); (try simp only [Act.put, List.setIfInBounds_toArray, List.set_cons_zero, List.set_cons_succ]))
        (refine wpAnyH_takeG (i := 5) (by kernel_rfl) (by kernel_rfl) (by kernel_rfl) (fun _ _ _ _ _ h => h) hS ?_; intro oi hoi; simp only [List.getElem?_toArray, List.getElem?_cons_succ, List.getElem?_cons_zero] at hoi; cases hoi; refine ⟨?_, by rfl, ?_, ?_⟩; rotate_left; (focus (intro wS hSw; obtain ⟨i, rfl⟩ := hSw; have s1 := HC0.out i; go_simp; (first | done | with_reducible rfl))); (try simp only [Act.put, List.setIfInBounds_toArray, List.set_cons_zero, List.set_cons_succ]))
        (refine wpAnyH_takeG (i := 6) (by kernel_rfl) (by kernel_rfl) (by kernel_rfl) (fun _ _ _ _ _ h => h) hS ?_; intro oi hoi; simp only [List.getElem?_toArray, List.getElem?_cons_succ, List.getElem?_cons_zero] at hoi; cases hoi; refine ⟨?_, by rfl, ?_, ?_⟩; rotate_left; (focus (intro wS hSw; skip; go_simp; (first | done | with_reducible rfl))); (try simp only [Act.put, List.setIfInBounds_toArray, List.set_cons_zero, List.set_cons_succ]))
        refine wpAnyH_done (by kernel_rfl) ?_ _
        refine NoPanic.normal ?_
        go_wp2_with fail
        go_roundg (11 - (k + 1))
        case measure => have := HM.out; omega
        case rel => exact ⟨k + 1, by go_num, by omega, ⟨by omega⟩, ⟨by rw [HN.out]; exact HZ.out⟩, m + 1, rfl⟩
    · have q1 : decide ((k : Int) < 11) = false := decide_eq_false (by omega)
      obtain rfl : k = 11 := by omega
      have HT := Lib.hid (show isTarget n = false by unfold isTarget; rw [HZ.out]; rfl)
      go_wp2_with fail
      go_ret
      exact ⟨by rw [HT.out]; rfl, pw_below_drewN HB.out m, HK.out.drewN m⟩
end Go.Proofs.Ytmmmhkeecaangaa.Wire
namespace Go.Proofs.Ytmmmhkeecaangaa.Wire
open Go.RowKit Go.Maps Go.Proofs.YtmmmhkeecaangaaW.PrintWords Go.Proofs.YtmmmhkeecaangaaW.PrintLast Go.Proofs.YtmmmhkeecaangaaW.PrintMore
set_option linter.unusedVariables false
set_option linter.unusedSimpArgs false

/-- How many channels from lo on are not the reserved one. -/
def cnt37 (lo : Int) : Nat → Int
  | 0 => 0
  | k + 1 => cnt37 lo k + (if lo + (k : Int) ≠ 37 then 1 else 0)
theorem cnt37_bound (lo : Int) : ∀ k : Nat, 0 ≤ cnt37 lo k ∧ cnt37 lo k ≤ k
  | 0 => by simp [cnt37]
  | k + 1 => by have := cnt37_bound lo k; unfold cnt37; split <;> omega
def rloB (b : Int) : Int := if b = 3 then 14 else if b = 2 then 7 else 2
def rhiB (n b : Int) : Int := if b = 3 then 51 - n else if b = 2 then 13 else 6
def rcntB (n b : Int) : Int := cnt37 (rloB b) (rhiB n b - rloB b + 1).toNat

set_option maxHeartbeats 1000000 in
theorem refChannels_calls (w0 w : World) (n b : Int) (h0 : 7 ≤ n) (h1 : n ≤ 24) (hB : Below w0.heap.size w0 w) :
    Calls Try.prog 40 #[.agg #[.int .i64 n], .int .i64 b] w (fun r w' => r = .returned (.int .i64 (rcntB n b)) ∧ Below w0.heap.size w0 w' ∧ Kept w w' (fun _ => False)) := by
  have HB := Lib.hid (below_alloc' hB (.cells #[.int .i64 n] 32))
  have HK := Lib.hid ((Kept.refl w (fun _ => False)).alloc (.cells #[.int .i64 n] 32))
  have hw1 : IntKind.i64.wrap (51 - n) = 51 - n := by rw [IntKind.wrap_i64]; omega
  have hg : ∀ m, ((w.alloc (.cells #[.int .i64 n] 32)).drewN m).cell? ⟨w.heap.size, 0, none⟩ = some (.int .i64 n) := fun m => (blk_cell (w := w.alloc (.cells #[.int .i64 n] 32)) (blk_new _ _) 0).trans rfl
  clear hB
  by_cases b3 : b = 3
  · subst b3
    have HR := Lib.hid (show rcntB n 3 = cnt37 14 ((51 - n) - 14 + 1).toNat from rfl)
    go_enter Try.func40, Try.ntmps40
    go_wp2_with fail
    go_quiet (fail)
    go_wp2_with fail
    obtain ⟨N, hN⟩ : ∃ N : Nat, ((51 - n) - 14 + 1).toNat = N := ⟨_, rfl⟩
    rw [hN] at HR
    have hNi : (N : Int) = (51 - n) - 14 + 1 := by omega
    go_loopg [7, 8] N (fun g v7 v8 w' => ∃ k : Nat, v8 = .int .i64 (14 + (k : Int)) ∧ v7 = .int .i64 (cnt37 14 k) ∧ k ≤ N ∧ Aside0 (g + k = N) ∧ Aside0 (Below w0.heap.size w0 w') ∧ Aside0 (Kept w w' (fun _ => False)))
    case atStart => exact ⟨0, by simp, rfl, Nat.zero_le _, ⟨rfl⟩, ⟨pw_below_drewN HB.out nq⟩, ⟨HK.out.drewN nq⟩⟩
    case round =>
      obtain ⟨k, rfl, rfl, hk, HM, HBr, HKr⟩ := hrel
      have hcb := cnt37_bound 14 k
      by_cases hlt : k < N
      · have q1 : decide (14 + (k : Int) ≤ (51 - n)) = true := decide_eq_true (by omega)
        by_cases h37 : 14 + (k : Int) = 37
        · have d1 : ((14 + (k : Int)) != 37) = false := by simpa using h37
          have HC := Lib.hid (show cnt37 14 (k + 1) = cnt37 14 k by show cnt37 14 k + (if 14 + (k : Int) ≠ 37 then 1 else 0) = _; rw [if_neg (fun h => h h37)]; omega)
          clear h37
          generalize cnt37 14 k = z at HC hcb
          go_wp2_with fail
          go_roundg (N - (k + 1))
          case measure => have := HM.out; omega
          case rel => exact ⟨k + 1, by (first | (congr 1; done) | (congr 1; omega)), by rw [HC.out], by omega, ⟨by omega⟩, HBr, HKr⟩
        · have d1 : ((14 + (k : Int)) != 37) = true := by simpa using h37
          have HC := Lib.hid (show cnt37 14 (k + 1) = cnt37 14 k + 1 by show cnt37 14 k + (if 14 + (k : Int) ≠ 37 then 1 else 0) = _; rw [if_pos h37])
          clear h37
          generalize cnt37 14 k = z at HC hcb
          go_wp2_with fail
          go_roundg (N - (k + 1))
          case measure => have := HM.out; omega
          case rel => exact ⟨k + 1, by (first | (congr 1; done) | (congr 1; omega)), by rw [HC.out], by omega, ⟨by omega⟩, HBr, HKr⟩
      · have q1 : decide (14 + (k : Int) ≤ (51 - n)) = false := decide_eq_false (by omega)
        obtain rfl : k = N := by omega
        go_wp2_with fail
        go_ret
        exact ⟨by rw [HR.out]; rfl, HBr.out, HKr.out⟩
  by_cases b2 : b = 2
  · subst b2
    have HR := Lib.hid (show rcntB n 2 = cnt37 7 ((13 : Int) - 7 + 1).toNat from rfl)
    clear hg
    go_enter Try.func40, Try.ntmps40
    go_wp2_with fail
    obtain ⟨N, hN⟩ : ∃ N : Nat, ((13 : Int) - 7 + 1).toNat = N := ⟨_, rfl⟩
    rw [hN] at HR
    have hNi : (N : Int) = 13 - 7 + 1 := by omega
    go_loopg [7, 8] N (fun g v7 v8 w' => ∃ k : Nat, v8 = .int .i64 (7 + (k : Int)) ∧ v7 = .int .i64 (cnt37 7 k) ∧ k ≤ N ∧ Aside0 (g + k = N) ∧ Aside0 (Below w0.heap.size w0 w') ∧ Aside0 (Kept w w' (fun _ => False)))
    case atStart => exact ⟨0, by simp, rfl, Nat.zero_le _, ⟨rfl⟩, ⟨HB.out⟩, ⟨HK.out⟩⟩
    case round =>
      obtain ⟨k, rfl, rfl, hk, HM, HBr, HKr⟩ := hrel
      have hcb := cnt37_bound 7 k
      by_cases hlt : k < N
      · have q1 : decide (7 + (k : Int) ≤ 13) = true := decide_eq_true (by omega)
        by_cases h37 : 7 + (k : Int) = 37
        · have d1 : ((7 + (k : Int)) != 37) = false := by simpa using h37
          have HC := Lib.hid (show cnt37 7 (k + 1) = cnt37 7 k by show cnt37 7 k + (if 7 + (k : Int) ≠ 37 then 1 else 0) = _; rw [if_neg (fun h => h h37)]; omega)
          clear h37
          generalize cnt37 7 k = z at HC hcb
          go_wp2_with fail
          go_roundg (N - (k + 1))
          case measure => have := HM.out; omega
          case rel => exact ⟨k + 1, by (first | (congr 1; done) | (congr 1; omega)), by rw [HC.out], by omega, ⟨by omega⟩, HBr, HKr⟩
        · have d1 : ((7 + (k : Int)) != 37) = true := by simpa using h37
          have HC := Lib.hid (show cnt37 7 (k + 1) = cnt37 7 k + 1 by show cnt37 7 k + (if 7 + (k : Int) ≠ 37 then 1 else 0) = _; rw [if_pos h37])
          clear h37
          generalize cnt37 7 k = z at HC hcb
          go_wp2_with fail
          go_roundg (N - (k + 1))
          case measure => have := HM.out; omega
          case rel => exact ⟨k + 1, by (first | (congr 1; done) | (congr 1; omega)), by rw [HC.out], by omega, ⟨by omega⟩, HBr, HKr⟩
      · have q1 : decide (7 + (k : Int) ≤ 13) = false := decide_eq_false (by omega)
        obtain rfl : k = N := by omega
        go_wp2_with fail
        go_ret
        exact ⟨by rw [HR.out]; rfl, HBr.out, HKr.out⟩
  · have HR := Lib.hid (show rcntB n b = cnt37 2 ((6 : Int) - 2 + 1).toNat by unfold rcntB rloB rhiB; rw [if_neg b3, if_neg b2, if_neg b3, if_neg b2])
    have e2 : (b == 2) = false := by simpa using b2
    have e3 : (b == 3) = false := by simpa using b3
    clear hg b2 b3
    go_enter Try.func40, Try.ntmps40
    go_wp2_with fail
    obtain ⟨N, hN⟩ : ∃ N : Nat, ((6 : Int) - 2 + 1).toNat = N := ⟨_, rfl⟩
    rw [hN] at HR
    have hNi : (N : Int) = 6 - 2 + 1 := by omega
    go_loopg [7, 8] N (fun g v7 v8 w' => ∃ k : Nat, v8 = .int .i64 (2 + (k : Int)) ∧ v7 = .int .i64 (cnt37 2 k) ∧ k ≤ N ∧ Aside0 (g + k = N) ∧ Aside0 (Below w0.heap.size w0 w') ∧ Aside0 (Kept w w' (fun _ => False)))
    case atStart => exact ⟨0, by simp, rfl, Nat.zero_le _, ⟨rfl⟩, ⟨HB.out⟩, ⟨HK.out⟩⟩
    case round =>
      obtain ⟨k, rfl, rfl, hk, HM, HBr, HKr⟩ := hrel
      have hcb := cnt37_bound 2 k
      by_cases hlt : k < N
      · have q1 : decide (2 + (k : Int) ≤ 6) = true := decide_eq_true (by omega)
        by_cases h37 : 2 + (k : Int) = 37
        · have d1 : ((2 + (k : Int)) != 37) = false := by simpa using h37
          have HC := Lib.hid (show cnt37 2 (k + 1) = cnt37 2 k by show cnt37 2 k + (if 2 + (k : Int) ≠ 37 then 1 else 0) = _; rw [if_neg (fun h => h h37)]; omega)
          clear h37
          generalize cnt37 2 k = z at HC hcb
          go_wp2_with fail
          go_roundg (N - (k + 1))
          case measure => have := HM.out; omega
          case rel => exact ⟨k + 1, by (first | (congr 1; done) | (congr 1; omega)), by rw [HC.out], by omega, ⟨by omega⟩, HBr, HKr⟩
        · have d1 : ((2 + (k : Int)) != 37) = true := by simpa using h37
          have HC := Lib.hid (show cnt37 2 (k + 1) = cnt37 2 k + 1 by show cnt37 2 k + (if 2 + (k : Int) ≠ 37 then 1 else 0) = _; rw [if_pos h37])
          clear h37
          generalize cnt37 2 k = z at HC hcb
          go_wp2_with fail
          go_roundg (N - (k + 1))
          case measure => have := HM.out; omega
          case rel => exact ⟨k + 1, by (first | (congr 1; done) | (congr 1; omega)), by rw [HC.out], by omega, ⟨by omega⟩, HBr, HKr⟩
      · have q1 : decide (2 + (k : Int) ≤ 6) = false := decide_eq_false (by omega)
        obtain rfl : k = N := by omega
        go_wp2_with fail
        go_ret
        exact ⟨by rw [HR.out]; rfl, HBr.out, HKr.out⟩
end Go.Proofs.Ytmmmhkeecaangaa.Wire
namespace Go.Proofs.Ytmmmhkeecaangaa.Wire
set_option linter.unusedVariables false
theorem target_cases {n : Int} (h : isTarget n = true) : n = 24 ∨ n = 23 ∨ n = 21 ∨ n = 19 ∨ n = 18 ∨ n = 14 ∨ n = 13 ∨ n = 12 ∨ n = 10 ∨ n = 8 ∨ n = 7 := by
  simp only [isTarget, blk, tabL, List.getD_cons_succ, List.getD_cons_zero, decide_eq_true_eq] at h
  repeat (split at h; · omega)
  omega
/-- The code's channels are as many as the reference counts. -/
theorem chans_count {n b : Int} (ht : isTarget n = true) (hb : 1 ≤ b ∧ b ≤ 3) : ((chansB b n).length : Int) = rcntB n b := by
  obtain rfl | rfl | rfl : b = 1 ∨ b = 2 ∨ b = 3 := by omega
  all_goals (rcases target_cases ht with rfl | rfl | rfl | rfl | rfl | rfl | rfl | rfl | rfl | rfl | rfl <;> decide)
end Go.Proofs.Ytmmmhkeecaangaa.Wire
namespace Go.Proofs.Ytmmmhkeecaangaa.Wire
open Go.RowKit Go.Maps Go.Proofs.YtmmmhkeecaangaaW.PrintWords Go.Proofs.YtmmmhkeecaangaaW.PrintLast Go.Proofs.YtmmmhkeecaangaaW.PrintMore
set_option linter.unusedVariables false
set_option linter.unusedSimpArgs false

def fineB (n h c least : Int) : Bool := goodB h c && (isTarget n && !decide (least < 0))
def openL (n h c least : Int) : List Int := (rangeI c h).filter (fun o => !shutB n least o)
def OpenPost (w0 w : World) (n h c least : Int) (r : Ending) (w' : World) : Prop :=
  ∃ v', r = .returned (.tuple #[v', .int .i64 (if fineB n h c least = true then 0 else 2)]) ∧ (Kd.int .i64).R 3 w' w0.heap.size (fun k => w.heap.size ≤ k) v' (if fineB n h c least = true then openL n h c least else []) ∧ Below w0.heap.size w0 w' ∧ Kept w w' (fun _ => False)

set_option maxHeartbeats 2000000 in
theorem refOpen_calls (w0 w : World) (n h c least : Int) (hB : Below w0.heap.size w0 w) : Calls Try.prog 17 #[.agg #[.int .i64 n], .int .i64 h, .int .i64 c, .int .i64 least] w (OpenPost w0 w n h c least) := by
  have HGd := Lib.hid (fun W => refGood_calls W h c)
  have HB := Lib.hid (below_alloc' hB (.cells #[.int .i64 n] 32))
  have HK := Lib.hid ((Kept.refl w (fun _ => False)).alloc (.cells #[.int .i64 n] 32))
  have HG := Lib.hid (show (w.alloc (.cells #[.int .i64 n] 32)).heap[w.heap.size]? = some (.cells #[.int .i64 n] 32 (0, 0)) from blk_new _ _)
  have HTg := Lib.hid (refTarget_calls w0 _ n HB.out)
  clear hB
  unfold OpenPost
  cases hg : goodB h c with
  | false =>
    have HF := Lib.hid (show fineB n h c least = false by simp [fineB, hg])
    rw [hg] at HGd
    clear hg
    rw [HF.out]
    go_enter Try.func17, Try.ntmps17
    go_wp2_with (first | (go_at_call 34; refine (HGd.out _).mono ?_; rintro r w1 ⟨rfl, rfl⟩))
    go_ret2
    exact ⟨_, rfl, Kd.R_nil _ _ _ _ _, HB.out, HK.out⟩
  | true =>
    cases ht : isTarget n with
    | false =>
      have HF := Lib.hid (show fineB n h c least = false by simp [fineB, ht])
      rw [hg] at HGd
      rw [ht] at HTg
      clear hg ht
      rw [HF.out]
      go_enter Try.func17, Try.ntmps17
      go_wp2_with (first | (go_at_call 34; refine (HGd.out _).mono ?_; rintro r w1 ⟨rfl, rfl⟩) | (go_at_call 39; refine HTg.out.mono ?_; rintro r w2 ⟨rfl, hB2, hK2⟩; have HB2 := Lib.hid hB2; have HK2 := Lib.hid (HK.out.then_ hK2 (fun _ h => h.elim)); clear hB2 hK2))
      go_ret2
      exact ⟨_, rfl, Kd.R_nil _ _ _ _ _, HB2.out, HK2.out⟩
    | true =>
      by_cases hl : least < 0
      · have d1 : decide (least < 0) = true := decide_eq_true hl
        have HF := Lib.hid (show fineB n h c least = false by simp [fineB, hl])
        rw [hg] at HGd
        rw [ht] at HTg
        clear hg ht hl
        rw [HF.out]
        go_enter Try.func17, Try.ntmps17
        go_wp2_with (first | (go_at_call 34; refine (HGd.out _).mono ?_; rintro r w1 ⟨rfl, rfl⟩) | (go_at_call 39; refine HTg.out.mono ?_; rintro r w2 ⟨rfl, hB2, hK2⟩; have HB2 := Lib.hid hB2; have HK2 := Lib.hid (HK.out.then_ hK2 (fun _ h => h.elim)); clear hB2 hK2))
        go_ret2
        exact ⟨_, rfl, Kd.R_nil _ _ _ _ _, HB2.out, HK2.out⟩
      · have d1 : decide (least < 0) = false := decide_eq_false hl
        have HFI := Lib.hid (show fineB n h c least = true by simp [fineB, hg, ht, hl])
        have HTT := Lib.hid ht
        have hts := target_small ht
        obtain ⟨g1, g2, g3, g4⟩ := (goodB_iff h c).1 hg
        rw [hg] at HGd
        rw [ht] at HTg
        clear hg ht hl
        rw [HFI.out]
        have HRA := Lib.hid (rangeI_at c h)
        have HLL := rangeI_len c h
        have HOL := Lib.hid (show openL n h c least = (rangeI c h).filter (fun o => !shutB n least o) from rfl)
        generalize hLr : rangeI c h = Lr at HRA HLL HOL
        have hln : (Lr.length : Int) = h - c + 1 := by rw [HLL]; omega
        clear hLr HLL
        go_enter Try.func17, Try.ntmps17
        go_wp2_with (first | (go_at_call 34; refine (HGd.out _).mono ?_; rintro r w1 ⟨rfl, rfl⟩) | (go_at_call 39; refine HTg.out.mono ?_; rintro r w2 ⟨rfl, hB2, hK2⟩; have HB2 := Lib.hid hB2; have HG2 := Lib.hid (blk_kept HG.out hK2 id); have HK2 := Lib.hid (HK.out.then_ hK2 (fun _ h => h.elim)); clear hB2 hK2))
        clear HB HK HG HTg HGd
        go_loopg [10, 11] Lr.length (fun g v10 v11 w' => ∃ k : Nat, v11 = .int .i64 (c + (k : Int)) ∧ k ≤ Lr.length ∧ Aside0 (g + k = Lr.length) ∧ Aside0 ((Kd.int .i64).R 3 w' w0.heap.size (fun k => w.heap.size < k) v10 ((Lr.take k).filter (fun o => !shutB n least o))) ∧ Aside0 (Kept w w' (fun _ => False)) ∧ Aside0 (Below w0.heap.size w0 w') ∧ Aside0 (w'.heap[w.heap.size]? = some (.cells #[.int .i64 n] 32 (0, 0))))
        case atStart => exact ⟨0, by simp, Nat.zero_le _, ⟨rfl⟩, ⟨Kd.R_nil _ _ _ _ _⟩, ⟨HK2.out⟩, ⟨HB2.out⟩, ⟨HG2.out⟩⟩
        case round =>
          obtain ⟨k, rfl, hk, HM, HO, HK, HB, HG⟩ := hrel
          by_cases hlt : k < Lr.length
          · have q1 : decide (c + (k : Int) ≤ h) = true := decide_eq_true (by omega)
            have HF0 := Lib.hid (show (Lr.take (k + 1)).filter (fun o => !shutB n least o) = (Lr.take k).filter (fun o => !shutB n least o) ++ (if (!shutB n least (c + (k : Int))) = true then [c + (k : Int)] else []) by rw [filter_step (fun o => !shutB n least o) Lr k hlt, HRA.out k hlt])
            have hll : ((Lr.take k).filter (fun o => !shutB n least o)).length ≤ 10 := by
              have := List.length_filter_le (fun o => !shutB n least o) (Lr.take k)
              rw [List.length_take] at this; omega
            generalize (Lr.take k).filter (fun o => !shutB n least o) = L at HO HF0 hll
            obtain ⟨Au, cu, rfl⟩ := Kd.R_slice HO.out
            have hg0 : wr.cell? ⟨w.heap.size, 0, none⟩ = some (.int .i64 n) := (blk_cell HG.out 0).trans rfl
            by_cases hz : c + (k : Int) = 0
            · have d2 : (c + (k : Int) == 0) = true := by simpa using hz
              have HF := Lib.hid (show (Lr.take (k + 1)).filter (fun o => !shutB n least o) = L ++ [c + (k : Int)] by rw [HF0.out, hz]; simp [shutB])
              clear hz HF0
              go_wp2_with (first | ((with_reducible refine gate_builtin (b := .append) (xs := #[.tmp 40, .tmp 42]) rfl ?_); at_builtin; (refine Kd.R_append (Kd.int .i64) (w0 := w0) w0.heap.size rfl (.tmp 40) (.tmp 42) 22 3 (.int .i64 0) 8 rfl Try.underlying22 infoI rfl (by decide) (by omega) (.slice Au L.length cu) L (c + (k : Int)) [.int .i64 (c + (k : Int))] (fun k => w.heap.size < k) (fun _ => False) rfl rfl ?aP (fun _ hk => hk.elim) ?aF ?aO ?aB ?aS ?aL ?_; (case aP => exact rfl); (case aB => exact (by repeat (first | (with_reducible first | exact HB.out | apply below_alloc | apply pw_below_drewN | apply below_drew1) | exact HB.out))); (case aF => exact (fun k hk => by have := blk_lt HG.out; omega)); (case aO => first | exact HO.out | exact (by (with_reducible repeat (first | apply Kd.R_alloc | apply Kd.R_drewN | apply Kd.R_drew)); exact HO.out)); (case aS => exact (below_size (by repeat (first | (with_reducible first | exact HB.out | apply below_alloc | apply pw_below_drewN | apply below_drew1) | exact HB.out)))); (case aL => exact (by omega)); intro v1 w1 hO1 hB1 hG1 hA1; have HO1 := Lib.hid hO1; have HB1 := Lib.hid hB1; have HG1 := Lib.hid hG1; clear hO1 hB1 hG1 hA1)))
              have HK3 := Lib.hid (Kept.of_grown HG1.out (Kept.refl _ (fun k => w.heap.size < k)) (fun k hk => .inl (HO.out.1 k hk)))
              go_roundg (Lr.length - (k + 1))
              case measure => have := HM.out; omega
              case rel => exact ⟨k + 1, by (first | (congr 1; done) | (congr 1; omega)), by omega, ⟨by omega⟩, ⟨by rw [HF.out]; exact HO1.out⟩, ⟨(HK.out).then_ HK3.out (fun _ h => .inr (Nat.le_of_lt h))⟩, ⟨HB1.out⟩, ⟨blk_kept HG.out HK3.out (Nat.lt_irrefl _)⟩⟩
            · have d2 : (c + (k : Int) == 0) = false := by simpa using hz
              have hcc := chans_count (b := c + (k : Int)) HTT.out (by omega)
              have hsh : shutB n least (c + (k : Int)) = decide (rcntB n (c + (k : Int)) < least) := by
                unfold shutB; rw [hcc]; have : (c + (k : Int) != 0) = true := by simpa using hz
                rw [this]; rfl
              rw [hsh] at HF0
              have HRC := Lib.hid (refChannels_calls w0 wr n (c + (k : Int)) hts.1 hts.2 HB.out)
              clear hcc hsh hz
              generalize rcntB n (c + (k : Int)) = z at HF0 HRC
              by_cases hzl : z < least
              · have d3 : decide (least ≤ z) = false := decide_eq_false (by omega)
                have HF := Lib.hid (show (Lr.take (k + 1)).filter (fun o => !shutB n least o) = L by rw [HF0.out]; simp [hzl])
                clear hzl HF0
                go_wp2_with (first | (go_at_call 40; refine HRC.out.mono ?_; rintro r w3 ⟨rfl, hB3, hK3⟩; have HB3 := Lib.hid hB3; have HK30 := Lib.hid hK3; have HO3 := Lib.hid (Kd.R_kept HO.out hK3 (fun _ _ => id)); have HG3 := Lib.hid (blk_kept HG.out hK3 id); clear hB3 hK3))
                go_roundg (Lr.length - (k + 1))
                case measure => have := HM.out; omega
                case rel => exact ⟨k + 1, by (first | (congr 1; done) | (congr 1; omega)), by omega, ⟨by omega⟩, ⟨by rw [HF.out]; exact HO3.out⟩, ⟨HK.out.then_ HK30.out (fun _ h => h.elim)⟩, ⟨HB3.out⟩, ⟨HG3.out⟩⟩
              · have d3 : decide (least ≤ z) = true := decide_eq_true (by omega)
                have HF := Lib.hid (show (Lr.take (k + 1)).filter (fun o => !shutB n least o) = L ++ [c + (k : Int)] by rw [HF0.out]; simp [hzl])
                clear hzl HF0
                go_wp2_with (first | (go_at_call 40; refine HRC.out.mono ?_; rintro r w3 ⟨rfl, hB3, hK3⟩; have HB3 := Lib.hid hB3; have HK30 := Lib.hid hK3; have HO3 := Lib.hid (Kd.R_kept HO.out hK3 (fun _ _ => id)); have HG3 := Lib.hid (blk_kept HG.out hK3 id); clear hB3 hK3) | ((with_reducible refine gate_builtin (b := .append) (xs := #[.tmp 40, .tmp 42]) rfl ?_); at_builtin; (refine Kd.R_append (Kd.int .i64) (w0 := w0) w0.heap.size rfl (.tmp 40) (.tmp 42) 22 3 (.int .i64 0) 8 rfl Try.underlying22 infoI rfl (by decide) (by omega) (.slice Au L.length cu) L (c + (k : Int)) [.int .i64 (c + (k : Int))] (fun k => w.heap.size < k) (fun _ => False) rfl rfl ?aP (fun _ hk => hk.elim) ?aF ?aO ?aB ?aS ?aL ?_; (case aP => exact rfl); (case aB => exact (by repeat (first | (with_reducible first | exact HB3.out | apply below_alloc | apply pw_below_drewN | apply below_drew1) | exact HB3.out))); (case aF => exact (fun k hk => by have := blk_lt HG3.out; omega)); (case aO => first | exact HO3.out | exact (by (with_reducible repeat (first | apply Kd.R_alloc | apply Kd.R_drewN | apply Kd.R_drew)); exact HO3.out)); (case aS => exact (below_size (by repeat (first | (with_reducible first | exact HB3.out | apply below_alloc | apply pw_below_drewN | apply below_drew1) | exact HB3.out)))); (case aL => exact (by omega)); intro v1 w1 hO1 hB1 hG1 hA1; have HO1 := Lib.hid hO1; have HB1 := Lib.hid hB1; have HG1 := Lib.hid hG1; clear hO1 hB1 hG1 hA1)))
                have HK3 := Lib.hid (Kept.of_grown HG1.out (Kept.refl _ (fun k => w.heap.size < k)) (fun k hk => .inl (HO3.out.1 k hk)))
                go_roundg (Lr.length - (k + 1))
                case measure => have := HM.out; omega
                case rel => exact ⟨k + 1, by (first | (congr 1; done) | (congr 1; omega)), by omega, ⟨by omega⟩, ⟨by rw [HF.out]; exact HO1.out⟩, ⟨(HK.out.then_ HK30.out (fun _ h => h.elim)).then_ HK3.out (fun _ h => .inr (Nat.le_of_lt h))⟩, ⟨HB1.out⟩, ⟨blk_kept HG3.out HK3.out (Nat.lt_irrefl _)⟩⟩
          · have q1 : decide (c + (k : Int) ≤ h) = false := decide_eq_false (by omega)
            have e : Lr.take k = Lr := List.take_of_length_le (by omega)
            have ho := HO.out
            rw [e] at ho
            have HO1 := Lib.hid ho
            clear ho e HO
            go_wp2_with fail
            go_ret2
            exact ⟨_, rfl, by first | (rw [if_pos rfl, HOL.out]; exact Kd.R_mono HO1.out (fun k h => Nat.le_of_lt h)) | (rw [HOL.out]; exact Kd.R_mono HO1.out (fun k h => Nat.le_of_lt h)), HB.out, HK.out⟩
end Go.Proofs.Ytmmmhkeecaangaa.Wire
namespace Go.Proofs.Ytmmmhkeecaangaa.Wire
open Go.RowKit Go.Maps Go.Proofs.YtmmmhkeecaangaaW.PrintWords Go.Proofs.YtmmmhkeecaangaaW.PrintLast Go.Proofs.YtmmmhkeecaangaaW.PrintMore
set_option linter.unusedVariables false
set_option linter.unusedSimpArgs false

/-- m noughts from place o on. -/
def setZ : List Int → Nat → Nat → List Int
  | xs, _, 0 => xs
  | xs, o, m + 1 => setZ (xs.set o 0) (o + 1) m
theorem setZ_len : ∀ (m : Nat) (xs : List Int) (o : Nat), (setZ xs o m).length = xs.length
  | 0, _, _ => rfl
  | m + 1, xs, o => by unfold setZ; rw [setZ_len m]; simp
theorem setZ_take : ∀ (m : Nat) (xs : List Int) (o i : Nat), i ≤ o → (setZ xs o m).take i = xs.take i
  | 0, _, _, _, _ => rfl
  | m + 1, xs, o, i, h => by unfold setZ; rw [setZ_take m _ (o + 1) i (by omega), List.take_set_of_le h]
theorem own_cells {base g n cap : Nat} {e : TypeId} {k : IntKind} : ∀ (m o : Nat) (W : World) (xs : List Int), W.ownsRow base e 1 (.slice (some ⟨g, 0, none⟩) n cap) n (nums k xs) →
    (W.setCells g o (List.replicate m (.int k 0))).ownsRow base e 1 (.slice (some ⟨g, 0, none⟩) n cap) n (nums k (setZ xs o m))
  | 0, _, _, _, h => h
  | m + 1, o, W, xs, h => own_cells m (o + 1) _ _ (by have := (own_store h (o : Int) 0).1; simpa using this)
end Go.Proofs.Ytmmmhkeecaangaa.Wire
namespace Go.Proofs.Ytmmmhkeecaangaa.Wire
open Go.RowKit Go.Maps Go.Proofs.YtmmmhkeecaangaaW.PrintWords Go.Proofs.YtmmmhkeecaangaaW.PrintLast Go.Proofs.YtmmmhkeecaangaaW.PrintMore
set_option linter.unusedVariables false
set_option linter.unusedSimpArgs false

theorem findFrom_none (p : Int → Bool) : ∀ (l : List Int) (k : Nat), findFrom p l k = -1 → l.filter (fun x => !p x) = l
  | [], _, _ => rfl
  | x :: l, k, h => by
    unfold findFrom at h
    cases q : p x with
    | true => rw [q] at h; simp at h
    | false => rw [q] at h; simp at h; simp [List.filter, q, findFrom_none p l (k + 1) h]
theorem findFrom_some (p : Int → Bool) : ∀ (l : List Int) (k : Nat), findFrom p l k ≠ -1 → ∃ i : Nat, findFrom p l k = ((k + i : Nat) : Int) ∧ i < l.length ∧ (l.take i).filter (fun x => !p x) = l.take i ∧ p (l.getD i 0) = true
  | [], k, h => absurd rfl h
  | x :: l, k, h => by
    unfold findFrom at h ⊢
    cases q : p x with
    | true => exact ⟨0, by simp, by simp, rfl, by simpa using q⟩
    | false =>
      rw [q] at h
      simp at h
      obtain ⟨i, h1, h2, h3, h4⟩ := findFrom_some p l (k + 1) h
      exact ⟨i + 1, by simp [h1]; omega, by simp; omega, by simp [List.filter, q, h3], by simpa using h4⟩
end Go.Proofs.Ytmmmhkeecaangaa.Wire
namespace Go.Proofs.Ytmmmhkeecaangaa.Wire
open Go.RowKit Go.Maps Go.Proofs.YtmmmhkeecaangaaW.PrintWords Go.Proofs.YtmmmhkeecaangaaW.PrintLast Go.Proofs.YtmmmhkeecaangaaW.PrintMore
set_option linter.unusedVariables false
set_option linter.unusedSimpArgs false

/-- What a row of numbers is, block and all. -/
structure RowIn (w : World) (base : Nat) (ok : Nat → Prop) (g n cap : Nat) (xs : List Int) : Prop where
  own : w.ownsRow base 3 1 (.slice (some ⟨g, 0, none⟩) n cap) n (nums .i64 xs)
  okg : ok g
theorem RowIn.len {w : World} {base : Nat} {ok : Nat → Prop} {g n cap : Nat} {xs : List Int} (h : RowIn w base ok g n cap xs) : xs.length = n := by have := h.own.1; simp [nums] at this; exact this
theorem RowIn.R {w : World} {base : Nat} {ok : Nat → Prop} {g n cap : Nat} {xs : List Int} (h : RowIn w base ok g n cap xs) (i : Nat) (hi : i ≤ n) : (Kd.int .i64).R 3 w base ok (.slice (some ⟨g, 0, none⟩) i cap) (xs.take i) := by
  have h1 := own_take h.own hi
  have hl := h.len
  refine Kd.R_of_own (h1 := fun _ => rfl) ?_ (fun k hk => by cases hk; exact h.okg)
  have e : (xs.take i).length = i := by rw [List.length_take]; omega
  rw [e]
  have e2 : (nums .i64 xs).take (i * 1) = encs (Value.int .i64) (xs.take i) := by simp [nums, encs, List.map_take]
  rw [← e2]; exact h1
end Go.Proofs.Ytmmmhkeecaangaa.Wire
namespace Go.Proofs.Ytmmmhkeecaangaa.Wire
open Go.RowKit Go.Maps Go.Proofs.YtmmmhkeecaangaaW.PrintWords Go.Proofs.YtmmmhkeecaangaaW.PrintLast Go.Proofs.YtmmmhkeecaangaaW.PrintMore
set_option linter.unusedVariables false
set_option linter.unusedSimpArgs false

theorem RowIn.get {w : World} {base : Nat} {ok : Nat → Prop} {g n cap : Nat} {xs : List Int} (h : RowIn w base ok g n cap xs) (k : Nat) (hk : k < n) : w.cell? ⟨g, k, none⟩ = some (.int .i64 (xs.getD k 0)) ∧ w.frozen? ⟨g, k, none⟩ = false := by
  have := own_at h.own (k : Int) (by omega) (by omega)
  simpa [rd] using this
theorem RowIn.set {w : World} {base : Nat} {ok : Nat → Prop} {g n cap : Nat} {xs : List Int} (h : RowIn w base ok g n cap xs) (k : Nat) (x : Int) : RowIn (w.setCell ⟨g, k, none⟩ (.int .i64 x)) base ok g n cap (xs.set k x) := by
  refine ⟨?_, h.okg⟩
  have := (own_store h.own (k : Int) x).1
  simpa using this
theorem RowIn.kept {w w' : World} {base : Nat} {ok S : Nat → Prop} {g n cap : Nat} {xs : List Int} (h : RowIn w base ok g n cap xs) (hk : Kept w w' S) (hne : ¬ S g) (hlt : g < w.heap.size) : RowIn w' base ok g n cap xs :=
  ⟨own_move h.own (fun k hk' => by cases hk'; exact hk.2 g hlt hne), h.okg⟩
end Go.Proofs.Ytmmmhkeecaangaa.Wire
namespace Go.Proofs.Ytmmmhkeecaangaa.Wire
open Go.RowKit Go.Maps Go.Proofs.YtmmmhkeecaangaaW.PrintWords Go.Proofs.YtmmmhkeecaangaaW.PrintLast Go.Proofs.YtmmmhkeecaangaaW.PrintMore
set_option linter.unusedVariables false
set_option linter.unusedSimpArgs false

/-- What stands behind j rounds. -/
structure DelAt (p : Int → Bool) (xs cur : List Int) (i j : Nat) : Prop where
  lt : i < j
  le : j ≤ xs.length
  len : cur.length = xs.length
  pre : cur.take i = (xs.take j).filter (fun x => !p x)
  post : cur.drop j = xs.drop j

theorem DelAt.yes {p : Int → Bool} {xs cur : List Int} {i j : Nat} (h : DelAt p xs cur i j) (hj : j < xs.length) (hp : p (xs.getD j 0) = true) : DelAt p xs cur i (j + 1) :=
  ⟨by have := h.lt; omega, by omega, h.len, by rw [h.pre, filter_step _ xs j hj, hp]; simp, by
    have := congrArg (List.drop 1) h.post
    simpa [List.drop_drop] using this⟩
theorem take_set_one (l : List Int) (i : Nat) (x : Int) (h : i < l.length) : (l.set i x).take (i + 1) = l.take i ++ [x] := by
  rw [List.take_add_one, List.take_set_of_le (Nat.le_refl _)]
  simp [h]
theorem DelAt.no {p : Int → Bool} {xs cur : List Int} {i j : Nat} (h : DelAt p xs cur i j) (hj : j < xs.length) (hp : p (xs.getD j 0) = false) : DelAt p xs (cur.set i (xs.getD j 0)) (i + 1) (j + 1) :=
  ⟨by have := h.lt; omega, by omega, by rw [List.length_set, h.len], by rw [take_set_one _ _ _ (by have := h.lt; have := h.len; omega), h.pre, filter_step _ xs j hj, hp]; simp, by
    have h2 := congrArg (List.drop 1) h.post
    simp only [List.drop_drop] at h2
    rw [← h2, List.drop_set_of_lt (by have := h.lt; omega)]⟩
theorem DelAt.fin {p : Int → Bool} {xs cur : List Int} {i j : Nat} (h : DelAt p xs cur i j) (hj : ¬ j < xs.length) : cur.take i = xs.filter (fun x => !p x) := by
  rw [h.pre, List.take_of_length_le (by omega)]
theorem Try.info_i : (Try.prog.info? 3).map (fun i => (i.zero, i.size, i.bytes)) = some (some (.int .i64 0), 1, 8) := by kernel_rfl
theorem cut_from (hinfo : (Try.prog.info? 3).map (fun i => (i.zero, i.size, i.bytes)) = some (some (.int .i64 0), 1, 8)) (W : World) (g n cap i : Nat) (hi : i ≤ n) (hc : i < cap) :
    (Instr.slice 22 (.slice (some ⟨g, 0, none⟩) n cap) (some (.int .i64 (i : Int))) none none).run Try.prog W = .ok (.slice (some ⟨g, i, none⟩) (n - i) (cap - i)) W := by
  obtain ⟨i0, hi0, _, hz1, _⟩ := info_parts hinfo
  have hel : Try.prog.elem 22 = 3 := by simp [Program.elem, Try.underlying22]
  have hu : Try.prog.underlying 22 = some (.slice (Try.prog.elem 22)) := by rw [hel]; exact Try.underlying22
  rw [run_slice_l W 22 (some ⟨g, 0, none⟩) n cap hu .i64 (i : Int) (Int.natCast_nonneg _) (by omega), hel]
  have hne : ¬ cap = i := by omega
  simp [sizeOf, typeInfo, hi0, hz1, sliced, Result.andThen, hne, add_plain]
theorem RowIn.clear {w : World} {base : Nat} {ok : Nat → Prop} {g n cap : Nat} {xs : List Int} (h : RowIn w base ok g n cap xs) (i m : Nat) : RowIn (w.setCells g i (List.replicate m (.int .i64 0))) base ok g n cap (setZ xs i m) :=
  ⟨own_cells m i w xs h.own, h.okg⟩

set_option maxHeartbeats 2000000 in
theorem deleteFunc_calls (w0 w : World) (f : FuncId) (g0 g1 : Value) (p : Int → Bool) (dom : Int → Prop) (Inv : World → Prop) (ok : Nat → Prop) (g cap : Nat) (xs : List Int)
    (hInv : ∀ w w', Inv w → Kept w w' (fun k => k = g) → Inv w')
    (hen : ∀ (w : World) (o : Int), (callFunc f #[.int .i64 o, g0, g1]).run Try.prog w = .ok (.enter f #[.int .i64 o, g0, g1]) w)
    (hans : Answers w0 f #[g0, g1] p dom Inv) (hB : Below w0.heap.size w0 w) (hI : Inv w) (hR : RowIn w w0.heap.size ok g xs.length cap xs) (hg : w0.heap.size ≤ g) (hlt : g < w.heap.size) (hcap : xs.length ≤ cap) (hd : ∀ x ∈ xs, dom x) (hl : xs.length ≤ 1000000) :
    Calls Try.prog 36 #[.slice (some ⟨g, 0, none⟩) xs.length cap, .func (.func f) #[] #[g0, g1]] w (fun r w' => ∃ v', r = .returned v' ∧ (Kd.int .i64).R 3 w' w0.heap.size ok v' (xs.filter (fun x => !p x)) ∧ Below w0.heap.size w0 w' ∧ Kept w w' (fun k => k = g)) := by
  have hC : (Kd.int .i64).C w (some ⟨g, 0, none⟩) xs.length xs := by
    have h := hR.R xs.length (Nat.le_refl _)
    rw [List.take_length] at h
    exact (Kd.R_reads' h).2.2
  have HX := Lib.hid (indexFunc_calls w0 w f g0 g1 p dom Inv (fun w w' hi hk => hInv w w' hi (hk.mono (fun _ h => h.elim))) hen hans xs _ cap hB hI hC hd hl)
  have HRW := Lib.hid hR; have HA := Lib.hid hans; have HV := Lib.hid hInv; have HI := Lib.hid hI; have HD := Lib.hid hd
  clear hR hans hInv hI hd hB hC
  by_cases hm : findFrom p xs 0 = -1
  · have HF := Lib.hid (findFrom_none p xs 0 hm)
    rw [hm] at HX
    clear hm
    go_enter Try.func36, Try.ntmps36
    go_wp2_with fail
    refine HX.out.mono ?_
    rintro r w1 ⟨rfl, hB1, hK1⟩
    have HB1 := Lib.hid hB1; have HK1 := Lib.hid hK1
    have HR1 := Lib.hid ((HRW.out.kept hK1 id hlt).R xs.length (Nat.le_refl _))
    clear hB1 hK1
    go_wp2_with fail
    go_ret
    exact ⟨_, rfl, by rw [HF.out]; have h := HR1.out; rw [List.take_length] at h; exact h, HB1.out, HK1.out.mono (fun _ h => h.elim)⟩
  · obtain ⟨i0, hi1, hi2, hi3, hi4⟩ := findFrom_some p xs 0 hm
    rw [Nat.zero_add] at hi1
    rw [hi1] at HX
    have HI3 := Lib.hid hi3; have HI4 := Lib.hid hi4
    have hne : (((i0 : Nat) : Int) == -1) = false := by rw [beq_eq_false_iff_ne]; omega
    clear hm hi1 hi3 hi4
    go_enter Try.func36, Try.ntmps36
    go_wp2_with fail
    refine HX.out.mono ?_
    rintro r w1 ⟨rfl, hB1, hK1⟩
    have HB1 := Lib.hid hB1; have HK1 := Lib.hid (hK1.mono (S' := fun k => k = g) (fun _ h => h.elim))
    have HR1 := Lib.hid (HRW.out.kept hK1 id hlt)
    clear hB1 hK1
    go_wp2_with fail
    have HD0 := Lib.hid (show DelAt p xs xs i0 (i0 + 1) from ⟨by omega, by omega, rfl, by rw [filter_step (fun x => !p x) xs i0 hi2, HI3.out, HI4.out]; simp, rfl⟩)
    go_loopg [5, 6] (xs.length - (i0 + 1)) (fun g' v5 v6 w' => ∃ (i j : Nat) (cur : List Int), v5 = .int .i64 i ∧ v6 = .int .i64 j ∧ Aside0 (g' + j = xs.length) ∧ Aside0 (DelAt p xs cur i j) ∧ Aside0 (RowIn w' w0.heap.size ok g xs.length cap cur) ∧ Aside0 (Kept w w' (fun k => k = g)) ∧ Aside0 (Below w0.heap.size w0 w'))
    case atStart => exact ⟨i0, i0 + 1, xs, rfl, by (first | rfl | simp), ⟨by omega⟩, ⟨HD0.out⟩, ⟨HR1.out⟩, ⟨HK1.out⟩, ⟨HB1.out⟩⟩
    case round =>
      obtain ⟨i, j, cur, rfl, rfl, HM, HDA, HR, HK, HB⟩ := hrel
      have hij := HDA.out.lt
      have hjn := HDA.out.le
      by_cases h : j < xs.length
      · have q1 : decide ((j : Int) < (xs.length : Int)) = true := decide_eq_true (by omega)
        obtain ⟨hcell, _⟩ := HR.out.get j h
        have hcell2 : wr.cell? (Addr.add ⟨g, 0, none⟩ j) = some (.int .i64 (cur.getD j 0)) := by rw [add_plain]; exact hcell
        obtain ⟨_, hfz⟩ := HR.out.get i (by omega)
        have HX' := Lib.hid (show cur.getD j 0 = xs.getD j 0 by
          have h1 := congrArg (fun l => l.getD 0 0) HDA.out.post
          simpa [List.getD] using h1)
        rw [HX'.out] at hcell hcell2
        have hdx := Lib.hid (HD.out (xs.getD j 0) (getD_memI h))
        have HFS := Lib.hid (filter_step (fun x => !p x) xs j h)
        obtain ⟨x, HXX0⟩ : ∃ x, x = xs.getD j 0 := ⟨_, rfl⟩
        have HXX := Lib.hid HXX0
        rw [← HXX0] at hcell hcell2 hdx HFS HX'
        clear HXX0
        have HAx := Lib.hid (HA.out wr x HB.out (HV.out _ _ HI.out HK.out) hdx.out)
        have hax : (#[Value.int .i64 x] ++ #[g0, g1]) = #[.int .i64 x, g0, g1] := rfl
        rw [hax] at HAx
        obtain ⟨b, hb⟩ : ∃ b, p x = b := ⟨_, rfl⟩
        rw [hb] at HAx HFS
        have henx := hen wr x
        have HP := Lib.hid (show p (xs.getD j 0) = b by rw [← HXX.out]; exact hb)
        clear hb hax
        cases b with
        | true =>
          have HD2 := Lib.hid (HDA.out.yes h HP.out)
          go_wp2_with fail
          refine HAx.out.mono ?_
          rintro r w2 ⟨rfl, hB2, hK2⟩
          have HB2 := Lib.hid hB2; have HK2 := Lib.hid (HK.out.then_ hK2 (fun _ h => h.elim))
          have HR2 := Lib.hid (HR.out.kept hK2 id (Nat.lt_of_lt_of_le hlt HK.out.1))
          clear hB2 hK2
          go_wp2_with fail
          go_roundg (xs.length - (j + 1))
          case measure => have := HM.out; omega
          case rel => exact ⟨i, j + 1, cur, rfl, by go_num, ⟨by omega⟩, ⟨HD2.out⟩, ⟨HR2.out⟩, ⟨HK2.out⟩, ⟨HB2.out⟩⟩
        | false =>
          have HD2 := Lib.hid (HDA.out.no h HP.out)
          rw [← HXX.out] at HD2
          go_wp2_with fail
          refine HAx.out.mono ?_
          rintro r w2 ⟨rfl, hB2, hK2⟩
          have HB2 := Lib.hid hB2; have HK2 := Lib.hid (HK.out.then_ hK2 (fun _ h => h.elim))
          have HR2 := Lib.hid (HR.out.kept hK2 id (Nat.lt_of_lt_of_le hlt HK.out.1))
          obtain ⟨hci, hfi⟩ := HR2.out.get i (by omega)
          have hci2 : w2.cell? (Addr.add ⟨g, 0, none⟩ i) = some (.int .i64 (cur.getD i 0)) := by rw [add_plain]; exact hci
          have hfi2 : w2.frozen? (Addr.add ⟨g, 0, none⟩ i) = false := by rw [add_plain]; exact hfi
          clear hB2 hK2
          go_wp2_with fail
          go_roundg (xs.length - (j + 1))
          case measure => have := HM.out; omega
          case rel => exact ⟨i + 1, j + 1, _, by go_num, by go_num, ⟨by omega⟩, ⟨HD2.out⟩, ⟨by first | exact HR2.out.set i x | (rw [add_plain]; exact HR2.out.set i x)⟩, ⟨HK2.out.setCell (.inl rfl) _⟩, ⟨HB2.out.setCell (p := _) hg _⟩⟩
      · have q1 : decide ((j : Int) < (xs.length : Int)) = false := decide_eq_false (by omega)
        have HE := Lib.hid (HDA.out.fin h)
        have hil := HDA.out.lt
        have HS1 := Lib.hid (fun W => cut_from (Try.info_i) W g xs.length cap i (by omega) (by omega))
        have HCL := Lib.hid (fun ty => Lib.run_clear_slice (P := Try.prog) wr 22 3 ty (.int .i64 0) Try.underlying22 (fun W => by kernel_rfl) rfl rfl g i (xs.length - i) (cap - i) (by omega) (fun t ht => by rw [(HR.out.get (i + t) (by omega)).1]; rfl) (fun t ht => (HR.out.get (i + t) (by omega)).2))
        have HR3 := Lib.hid (RowIn.clear HR.out i (xs.length - i))
        have HB3 := Lib.hid (Below.setCells g hg (List.replicate (xs.length - i) (Value.int .i64 0)) i _ HB.out)
        have HK3 := Lib.hid (Kept.setCells (S := fun k => k = g) g (.inl rfl) (List.replicate (xs.length - i) (Value.int .i64 0)) i _ HK.out)
        have hic : i ≤ cap := by omega
        have hle : i ≤ xs.length := by omega
        have hs1 := HS1.out
        have hcl := HCL.out
        generalize wr.setCells g i (List.replicate (xs.length - i) (Value.int .i64 0)) = w3 at hcl HR3 HB3 HK3
        clear HS1 HCL hcap hlt
        go_wp2_with fail
        go_ret
        exact ⟨_, rfl, by rw [← HE.out, ← setZ_take (xs.length - i) cur i i (Nat.le_refl _)]; exact HR3.out.R i hle, HB3.out, HK3.out⟩
end Go.Proofs.Ytmmmhkeecaangaa.Wire
namespace Go.Proofs.Ytmmmhkeecaangaa.Wire
open Go.RowKit Go.Maps Go.Proofs.YtmmmhkeecaangaaW.PrintWords Go.Proofs.YtmmmhkeecaangaaW.PrintLast Go.Proofs.YtmmmhkeecaangaaW.PrintMore
set_option linter.unusedVariables false
set_option linter.unusedSimpArgs false

theorem rangeI_mem {lo hi x : Int} (h : x ∈ rangeI lo hi) : lo ≤ x ∧ x ≤ hi := by
  simp only [rangeI, List.mem_map, List.mem_range] at h
  obtain ⟨k, hk, rfl⟩ := h
  omega
theorem rowIn_of_R {w : World} {base : Nat} {ok : Nat → Prop} {g cap : Nat} {xs : List Int} (h : (Kd.int .i64).R 3 w base ok (.slice (some ⟨g, 0, none⟩) xs.length cap) xs) : RowIn w base ok g xs.length cap xs :=
  ⟨Kd.own_of_R (h1 := fun _ => rfl) h, h.1 g rfl⟩

set_option maxHeartbeats 4000000 in
set_option maxRecDepth 100000 in
theorem open_calls (w0 w : World) (n h c least : Int) (h0 : -9223372036854775808 ≤ n) (h1 : n ≤ 9223372036854775807) (hB : Below w0.heap.size w0 w) : Calls Try.prog 16 #[.agg #[.int .i64 n], .int .i64 h, .int .i64 c, .int .i64 least] w (OpenPost w0 w n h c least) := by
  have HSZ := Lib.hid hB.size
  obtain ⟨W0, hW0⟩ : ∃ W0, W0 = (w.alloc (.cells #[.int .i64 n] 32)).alloc (.cells #[.int .i64 least] 3) := ⟨_, rfl⟩
  have HB := Lib.hid (show Below w0.heap.size w0 W0 by rw [hW0]; exact below_alloc' (below_alloc' hB _) _)
  have HK := Lib.hid (show Kept w W0 (fun _ => False) by rw [hW0]; exact ((Kept.refl w (fun _ => False)).alloc _).alloc _)
  have HV := Lib.hid (show OpenVars W0 w.heap.size (w.heap.size + 1) n least by
    rw [hW0]; exact ⟨blk_alloc (blk_new _ _) _, by have := blk_new (w.alloc (.cells #[.int .i64 n] 32)) (.cells #[.int .i64 least] 3); simpa using this⟩)
  have HWS := Lib.hid (show W0.heap.size = w.heap.size + 2 by rw [hW0]; simp)
  have HOP := Lib.hid (options_calls w0 W0 h c HB.out)
  have HWW := Lib.hid hW0
  clear hB
  unfold OpenPost
  unfold OptPost at HOP
  cases hg : goodB h c with
  | false =>
    have HF := Lib.hid (show fineB n h c least = false by simp [fineB, hg])
    rw [hg] at HOP
    simp only [Bool.false_eq_true, if_false] at HOP
    clear hg
    rw [HF.out]
    subst hW0
    go_enter Try.func16, Try.ntmps16
    go_wp2_with fail
    refine HOP.out.mono ?_
    rintro r w1 ⟨v1, rfl, hR, hB1, hK1⟩
    have HB1 := Lib.hid hB1; have HK1 := Lib.hid (HK.out.then_ hK1 (fun _ h => h.elim))
    clear hR hB1 hK1
    go_wp2_with fail
    go_ret2
    exact ⟨_, rfl, Kd.R_nil _ _ _ _ _, HB1.out, HK1.out⟩
  | true =>
    obtain ⟨g1, g2, g3, g4⟩ := (goodB_iff h c).1 hg
    have HLL := Lib.hid (show 0 < (rangeI c h).length ∧ (rangeI c h).length ≤ 10 by rw [rangeI_len]; omega)
    have HDM := Lib.hid (show ∀ x ∈ rangeI c h, 0 ≤ x ∧ x ≤ 3 from fun x hx => by have := rangeI_mem hx; omega)
    have HOL := Lib.hid (show openL n h c least = (rangeI c h).filter (fun o => !shutB n least o) from rfl)
    have HGG := Lib.hid hg
    rw [hg] at HOP
    simp only [if_true] at HOP
    clear hg g1 g2 g3 g4
    generalize rangeI c h = Lr at HLL HDM HOL HOP
    cases ht : isTarget n with
    | false =>
      have HF := Lib.hid (show fineB n h c least = false by simp [fineB, ht])
      have HT := Lib.hid ht
      clear ht
      rw [HF.out]
      subst hW0
      go_enter Try.func16, Try.ntmps16
      go_wp2_with fail
      refine HOP.out.mono ?_
      rintro r w1 ⟨v1, rfl, hR, hB1, hK1⟩
      have HVL := Lib.hid (valid_calls w0 w1 n h0 h1 hB1)
      rw [HT.out] at HVL
      have hcell : w1.cell? ⟨w.heap.size, 0, none⟩ = some (.int .i64 n) := (blk_cell (HV.out.kept hK1 id id).1 0).trans rfl
      have HB1 := Lib.hid hB1; have HK1 := Lib.hid (HK.out.then_ hK1 (fun _ h => h.elim))
      clear hR hB1 hK1
      go_wp2_with fail
      refine HVL.out.mono ?_
      rintro r w2 ⟨rfl, hB2, hK2⟩
      have HB2 := Lib.hid hB2; have HK2 := Lib.hid (HK1.out.then_ hK2 (fun _ h => h.elim))
      clear hB2 hK2 hcell
      go_wp2_with fail
      go_ret2
      exact ⟨_, rfl, Kd.R_nil _ _ _ _ _, HB2.out, HK2.out⟩
    | true =>
      by_cases hl : least < 0
      · have d1 : decide (least < 0) = true := decide_eq_true hl
        have HF := Lib.hid (show fineB n h c least = false by simp [fineB, hl])
        have HT := Lib.hid ht
        clear ht hl
        rw [HF.out]
        subst hW0
        go_enter Try.func16, Try.ntmps16
        go_wp2_with fail
        refine HOP.out.mono ?_
        rintro r w1 ⟨v1, rfl, hR, hB1, hK1⟩
        have HVL := Lib.hid (valid_calls w0 w1 n h0 h1 hB1)
        rw [HT.out] at HVL
        have hcell : w1.cell? ⟨w.heap.size, 0, none⟩ = some (.int .i64 n) := (blk_cell (HV.out.kept hK1 id id).1 0).trans rfl
        have HV1 := Lib.hid (HV.out.kept hK1 id id)
        have HB1 := Lib.hid hB1; have HK1 := Lib.hid (HK.out.then_ hK1 (fun _ h => h.elim))
        clear hR hB1 hK1
        go_wp2_with fail
        refine HVL.out.mono ?_
        rintro r w2 ⟨rfl, hB2, hK2⟩
        have hcell2 : w2.cell? ⟨w.heap.size + 1, 0, none⟩ = some (.int .i64 least) := (blk_cell (HV1.out.kept hK2 id id).2 0).trans rfl
        have HB2 := Lib.hid hB2; have HK2 := Lib.hid (HK1.out.then_ hK2 (fun _ h => h.elim))
        clear hB2 hK2 hcell
        go_wp2_with fail
        go_ret2
        exact ⟨_, rfl, Kd.R_nil _ _ _ _ _, HB2.out, HK2.out⟩
      · have d1 : decide (least < 0) = false := decide_eq_false hl
        have HF := Lib.hid (show fineB n h c least = true by simp [fineB, hl, ht, HGG.out])
        have HT := Lib.hid ht
        clear ht hl
        rw [HF.out]
        subst hW0
        go_enter Try.func16, Try.ntmps16
        go_wp2_with fail
        refine HOP.out.mono ?_
        rintro r w1 ⟨v1, rfl, hR, hB1, hK1⟩
        have HVL := Lib.hid (valid_calls w0 w1 n h0 h1 hB1)
        rw [HT.out] at HVL
        have hcell : w1.cell? ⟨w.heap.size, 0, none⟩ = some (.int .i64 n) := (blk_cell (HV.out.kept hK1 id id).1 0).trans rfl
        have HV1 := Lib.hid (HV.out.kept hK1 id id)
        have HR1 := Lib.hid hR
        have HB1 := Lib.hid hB1; have HK1 := Lib.hid (HK.out.then_ hK1 (fun _ h => h.elim))
        clear hR hB1 hK1
        go_wp2_with fail
        refine HVL.out.mono ?_
        rintro r w2 ⟨rfl, hB2, hK2⟩
        have hcell2 : w2.cell? ⟨w.heap.size + 1, 0, none⟩ = some (.int .i64 least) := (blk_cell (HV1.out.kept hK2 id id).2 0).trans rfl
        have HV2 := Lib.hid (HV1.out.kept hK2 id id)
        have HR2 := Lib.hid (Kd.R_kept HR1.out hK2 (fun _ _ => id))
        have HB2 := Lib.hid hB2; have HK2 := Lib.hid (HK1.out.then_ hK2 (fun _ h => h.elim))
        clear hB2 hK2 hcell
        obtain ⟨g, cap, hv, hg1, hg2, _⟩ := Kd.R_form HR2.out HLL.out.1
        have HR3 := Lib.hid HR2.out
        rw [hv] at HR3
        subst hv
        have hcl := (Kd.R_reads' HR3.out).2.1
        have HRI := Lib.hid (rowIn_of_R HR3.out)
        have hgo : w.heap.size + 2 ≤ g := Nat.le_trans (Nat.le_of_eq HWS.out.symm) HRI.out.okg
        have HDF := Lib.hid (deleteFunc_calls w0 w2 37 (.pointer (some ⟨w.heap.size, 0, none⟩)) (.pointer (some ⟨w.heap.size + 1, 0, none⟩)) (shutB n least) (fun o => 0 ≤ o ∧ o ≤ 3) (fun W => OpenVars W w.heap.size (w.heap.size + 1) n least) (fun k => w.heap.size ≤ k) g cap Lr
          (fun W W' hi hk => hi.kept hk (by omega) (by omega))
          (fun W o => enters_ Try.func37 (by kernel_rfl) (by kernel_rfl) _ W)
          (fun W o hb hi hd => open1_calls w0 W _ _ n least o hi HT.out hd hb) HB2.out HV2.out ⟨HRI.out.own, by omega⟩ hg1 hg2 hcl HDM.out (by have := HLL.out; omega))
        clear hcl hg1 hg2
        go_wp2_with fail
        refine HDF.out.mono ?_
        rintro r w3 ⟨v3, rfl, hR3, hB3, hK3⟩
        have HR4 := Lib.hid hR3; have HB3 := Lib.hid hB3; have HK3 := Lib.hid (HK2.out.then_ hK3 (fun k h => .inr (by omega)))
        clear hR3 hB3 hK3
        go_wp2_with fail
        go_ret2
        exact ⟨_, rfl, by first | (rw [HOL.out]; exact HR4.out) | (rw [if_pos rfl, HOL.out]; exact HR4.out), HB3.out, HK3.out⟩
end Go.Proofs.Ytmmmhkeecaangaa.Wire
namespace Go.Proofs.Ytmmmhkeecaangaa.Wire
open Go.RowKit Go.Maps Go.Proofs.YtmmmhkeecaangaaW.PrintWords Go.Proofs.YtmmmhkeecaangaaW.PrintLast Go.Proofs.YtmmmhkeecaangaaW.PrintMore
set_option linter.unusedVariables false
set_option linter.unusedSimpArgs false

def NamedPost (w0 w : World) (L : List Int) (r : Ending) (w' : World) : Prop :=
  ∃ A' c', r = .returned (.slice A' L.length c') ∧ L.length ≤ c' ∧ (∀ W, Kept w' W (fun k => k < w.heap.size) → (Kd.int .i64).C W A' L.length L) ∧ Below w0.heap.size w0 w' ∧ Kept w w' (fun _ => False)
theorem append_none (W : World) (t ty : TypeId) (b cp c : Nat) (hu : Try.prog.underlying t = some (.slice 3)) (h1 : 1 ≤ cp) :
    (Builtin.append_ #[t, t] ty #[.slice (some ⟨b, 0, none⟩) 1 cp, .slice none 0 c]).run Try.prog W = .ok (.slice (some ⟨b, 0, none⟩) 1 cp) W := by
  obtain ⟨i0, hi0, _, hz1, _⟩ := info_parts Try.info_i
  simp [Builtin.append_, run_underlying hu, sizeOf, typeInfo, hi0, hz1, Builtin.lenOf, Builtin.firstCells, h1, storeCells]

/-- Append of a list of numbers to a full row of one cell. -/
theorem step_append_one {ops : Array Oper} {o : Oper} {a : Act} {w : World} {K : Act → World → Prop} {Q : Exit → Act → World → Prop} {E : Prop} (hgd : o.guard = none) (s x : Operand)
    (ho : o.op = .call { callee := .builtin .append, args := #[s, x], argTypes := #[22, 22] })
    (b t : Nat) (p : Int) (hb : w.heap[b]? = some (.cells #[.int .i64 p] t (0, 0))) (hs : a.eval s = .slice (some ⟨b, 0, none⟩) 1 1)
    (A : Option Addr) (c : Nat) (l : List Int) (hx : a.eval x = .slice A l.length c) (hC : (Kd.int .i64).C w A l.length l) (hl : l.length ≤ 1000000) (N : Nat) (hN : N ≤ b)
    (h : ∀ A' c' w', l.length + 1 ≤ c' → (∀ W, Kept w' W (fun k => k < N) → (Kd.int .i64).C W A' (p :: l).length (p :: l)) → Below w.heap.size w w' → K (a.put o.dst (.slice A' (l.length + 1) c')) w') :
    if Region.wanted o (yielded ops a.tmps) = true then Oper.wp Try.prog o a w K Q else E := by
  obtain ⟨i0, hi0, hz0, hz1, hz2⟩ := info_parts Try.info_i
  have hC1 : ∀ W, Kept w W (fun k => k < N) → (Kd.int .i64).C W (some ⟨b, 0, none⟩) 1 [p] := fun W hW => C_blk (blk_kept hb hW (by omega)) [p] rfl (by simp)
  cases l with
  | nil =>
    cases A with
    | none =>
      have hw : Region.wanted o (yielded ops a.tmps) = true := by simp [Region.wanted, hgd]
      rw [if_pos hw]
      have hr := append_none w 22 o.type b 1 c Try.underlying22 (by decide)
      unfold Oper.wp
      rw [show (execOp a.eval o).run Try.prog w = .ok (.value (.slice (some ⟨b, 0, none⟩) 1 1)) w by
        unfold execOp
        simp only [ho, resolve, invoke, builtin, Sem.run_bind, Sem.run_pure, Result.andThen_ok, List.map_toArray, List.map_cons, List.map_nil, hs, hx, List.length_nil, hr, Result.andThen]]
      exact h _ 1 w (by simp) hC1 (Below.refl _ _)
    | some ad =>
      refine step_append_room hgd s x 22 ho 3 i0 1 Try.underlying22 hi0 hz1 b 0 1 1 hs ad 0 c [] hx rfl (fun j u hj => by simp at hj) (fun u hu => by simp at hu) (by simp) (fun j hj => by simp at hj) ?_
      exact h _ 1 _ (by simp) hC1 (Below.refl _ _)
  | cons y r =>
    obtain ⟨ad, hA, _⟩ := C_at hC 0 (by simp)
    subst hA
    refine step_append_grows hgd s x 22 ho 3 i0 (.int .i64 0) 1 8 Try.underlying22 hi0 hz0 hz1 hz2 rfl (by decide) (some ⟨b, 0, none⟩) 1 1 [.int .i64 p] hs (fun h => by cases h) rfl (fun b' hb' j u hj => ?_) ad (y :: r).length c (encs (Value.int .i64) (y :: r)) hx (by simp [encs]) (fun j u hj => ?_) (fun u hu => ?_) (by simp) (by simp at hl ⊢; unfold maxLen; omega) (by simp at hl ⊢; omega) ?_
    · cases hb'
      cases j with
      | zero => simp at hj; subst hj; rw [add_plain]; exact (blk_cell hb 0).trans rfl
      | succ j => simp at hj
    · by_cases hj2 : j < (y :: r).length
      · obtain ⟨ad', e, hcell⟩ := C_at hC j hj2
        cases e
        rw [encs_get (d := (0 : Int)) _ _ hj2] at hj
        cases hj
        exact hcell
      · rw [List.getElem?_eq_none (by rw [encs_length]; omega)] at hj; cases hj
    · simp only [encs, List.mem_map] at hu
      obtain ⟨z, _, rfl⟩ := hu
      rfl
    · intro v' w' hown hg
      have e1 : 1 + (y :: r).length = (p :: y :: r).length := by simp [Nat.add_comm]
      rw [e1] at hown
      have hR := Kd.R_of_own (enc := Value.int .i64) (h1 := fun _ => rfl) (ok := fun k => w.heap.size ≤ k) (xs := p :: y :: r) (v := v') hown (own_base hown)
      obtain ⟨A', c', rfl⟩ := Kd.R_slice hR
      have hr := Kd.R_reads' hR
      exact h A' c' w' hr.2.1 (Kd.C_kept_own hR (fun k hk => by have := blk_lt hb; omega)) (pw_below_grown (Below.refl _ _) none (Nat.le_refl _) hg (fun k hk => by cases hk))

set_option maxHeartbeats 4000000 in
set_option maxRecDepth 100000 in
theorem named_calls (w0 w : World) (s p : Int) (A : Option Addr) (c : Nat) (l : List Int) (hB : Below w0.heap.size w0 w) (hC : (Kd.int .i64).C w A l.length l) (hc : l.length ≤ c) (hl : l.length ≤ 1000000) :
    Calls Try.prog 41 #[.agg #[.int .i64 s, .int .i64 p, .slice A l.length c]] w (NamedPost w0 w (p :: l)) := by
  obtain ⟨W1, hW1⟩ : ∃ W1, W1 = (w.alloc (.cells #[.int .i64 s, .int .i64 p, .slice A l.length c] 37)).alloc (.cells #[.int .i64 p] 93) := ⟨_, rfl⟩
  have HB := Lib.hid (show Below w0.heap.size w0 W1 by rw [hW1]; exact below_alloc' (below_alloc' hB _) _)
  have HK := Lib.hid (show Kept w W1 (fun _ => False) by rw [hW1]; exact ((Kept.refl w (fun _ => False)).alloc _).alloc _)
  have HG := Lib.hid (show W1.heap[w.heap.size]? = some (.cells #[.int .i64 s, .int .i64 p, .slice A l.length c] 37 (0, 0)) by rw [hW1]; exact blk_alloc (blk_new _ _) _)
  have HF := Lib.hid (show W1.heap[w.heap.size + 1]? = some (.cells #[.int .i64 p] 93 (0, 0)) by
    rw [hW1]; have := blk_new (w.alloc (.cells #[.int .i64 s, .int .i64 p, .slice A l.length c] 37)) (.cells #[.int .i64 p] 93); simpa using this)
  have HC := Lib.hid (C_none hC HK.out)
  have HWW := Lib.hid (show (w.alloc (.cells #[.int .i64 s, .int .i64 p, .slice A l.length c] 37)).alloc (.cells #[.int .i64 p] 93) = W1 from hW1.symm)
  have HL := Lib.hid hc
  have HLL := Lib.hid hl
  clear hB hC hc hl
  unfold NamedPost
  go_enter Try.func41, Try.ntmps41
  go_wp2_with fail
  rw [HWW.out]
  clear HWW hW1
  refine wp_region_noPanic ?_
  refine wp_region_held_drew (S := fun W => Kept W1 W (fun _ => False) ∧ Below w0.heap.size w0 W) (by kernel_rfl) ⟨(Kept.refl _ _).drew, below_drew HB.out⟩ (fun hS => ?_)
  (refine wpAnyH_takeG (i := 0) (by kernel_rfl) (by kernel_rfl) (by kernel_rfl) (fun _ _ _ _ _ h => h) hS ?_; intro oi hoi; simp only [List.getElem?_toArray, List.getElem?_cons_succ, List.getElem?_cons_zero] at hoi; cases hoi; refine ⟨?_, by rfl, ?_, ?_⟩; rotate_left; (focus (intro wS hSw; skip; go_simp; (first | done | with_reducible rfl))); (try simp only [Act.put, List.setIfInBounds_toArray, List.set_cons_zero, List.set_cons_succ]))
  (refine wpAnyH_takeG (i := 1) (by kernel_rfl) (by kernel_rfl) (by kernel_rfl) (fun _ _ _ _ _ h => h) hS ?_; intro oi hoi; simp only [List.getElem?_toArray, List.getElem?_cons_succ, List.getElem?_cons_zero] at hoi; cases hoi; refine ⟨?_, by rfl, ?_, ?_⟩; rotate_left; (focus (intro wS hSw; skip; go_simp; (first | done | with_reducible rfl))); (try simp only [Act.put, List.setIfInBounds_toArray, List.set_cons_zero, List.set_cons_succ]))
  (refine wpAnyH_takeG (i := 2) (by kernel_rfl) (by kernel_rfl) (by kernel_rfl) (fun _ _ _ _ _ h => h) hS ?_; intro oi hoi; simp only [List.getElem?_toArray, List.getElem?_cons_succ, List.getElem?_cons_zero] at hoi; cases hoi; refine ⟨?_, by rfl, ?_, ?_⟩; rotate_left; (focus (intro wS hSw; have hcell := (blk_cell (blk_kept HG.out hSw.1 id) 2).trans rfl; go_simp; (first | done | with_reducible rfl))); (try simp only [Act.put, List.setIfInBounds_toArray, List.set_cons_zero, List.set_cons_succ]))
  refine wpAnyH_oneG (i := 3) (by kernel_rfl) ?_
  intro oi hoi K' hK
  simp only [List.getElem?_toArray, List.getElem?_cons_succ, List.getElem?_cons_zero] at hoi
  cases hoi
  refine step_append_one rfl (.tmp 7) (.tmp 9) rfl (w.heap.size + 1) 93 p (blk_kept HF.out hS.1 id) rfl A c l rfl (C_none HC.out hS.1) HLL.out w.heap.size (by omega) ?_
  intro A' c' w2 hc' hC' hb'
  have HC2 := Lib.hid hC'
  have HLc := Lib.hid hc'
  have HB2 := Lib.hid (below_then hS.2 hS.2.size hb')
  have HK2 := Lib.hid (HK.out.then_ ((hS.1).below hb') (fun _ h => h.elim))
  have HK3 := Lib.hid ((hS.1).below hb')
  clear hC' hc' hb'
  (refine hK.out _ _ ?_ (fun hS => ?_); (focus (exact ⟨HK3.out, HB2.out⟩)); clear hK K'; (try simp only [Act.put, List.setIfInBounds_toArray, List.set_cons_zero, List.set_cons_succ]))
  (refine wpAnyH_takeG (i := 4) (by kernel_rfl) (by kernel_rfl) (by kernel_rfl) (fun _ _ _ _ _ h => h) hS ?_; intro oi hoi; simp only [List.getElem?_toArray, List.getElem?_cons_succ, List.getElem?_cons_zero] at hoi; cases hoi; refine ⟨?_, by rfl, ?_, ?_⟩; rotate_left; (focus (intro wS hSw; skip; go_simp; (first | done | with_reducible rfl))); (try simp only [Act.put, List.setIfInBounds_toArray, List.set_cons_zero, List.set_cons_succ]))
  refine wpAnyH_done (by kernel_rfl) ?_ _
  refine NoPanic.normal ?_
  go_wp2_with fail
  go_ret
  exact ⟨A', c', rfl, HLc.out, HC2.out, HB2.out, HK2.out⟩
end Go.Proofs.Ytmmmhkeecaangaa.Wire
namespace Go.Proofs.Ytmmmhkeecaangaa.Wire
open Go.RowKit Go.Maps Go.Proofs.YtmmmhkeecaangaaW.PrintWords Go.Proofs.YtmmmhkeecaangaaW.PrintLast Go.Proofs.YtmmmhkeecaangaaW.PrintMore
set_option linter.unusedVariables false
set_option linter.unusedSimpArgs false

/-- Are a bid's options numbers from 0 to 3, each at most once? -/
def okL : List Int → List Int → Bool
  | [], _ => true
  | o :: r, seen => if decide (0 ≤ o) && decide (o ≤ 3) && !seen.contains o then okL r (o :: seen) else false
def validB (s p : Int) (l : List Int) : Bool := decide (0 ≤ s) && (decide (s ≤ 511) && (decide (l.length ≤ 3) && okL (p :: l) []))
theorem take_cons_rev (L : List Int) (k : Nat) (h : k < L.length) : (L.take (k + 1)).reverse = L.getD k 0 :: (L.take k).reverse := by
  rw [List.take_add_one, List.getElem?_eq_getElem h]
  simp [List.getD, h]
theorem okL_step (L : List Int) (k : Nat) (h : k < L.length) (hk : okL L [] = okL (L.drop k) (L.take k).reverse) (o : Int) (ho : L.getD k 0 = o) :
    okL L [] = (if (decide (0 ≤ o) && decide (o ≤ 3) && !(L.take k).reverse.contains o) = true then okL (L.drop (k + 1)) (L.take (k + 1)).reverse else false) := by
  rw [hk, take_cons_rev L k h, ho, List.drop_eq_getElem_cons h]
  have e : L[k] = o := by rw [← ho]; simp [List.getD, h]
  rw [e]; rfl
/-- The seen-array's block. -/
def SeenAt (w : World) (g : Nat) (seen : List Int) : Prop := w.heap[g]? = some (.cells #[.bool (seen.contains 0), .bool (seen.contains 1), .bool (seen.contains 2), .bool (seen.contains 3)] 68 (0, 0))

theorem SeenAt.set {w : World} {g : Nat} {seen : List Int} (h : SeenAt w g seen) (x : Int) (hx : 0 ≤ x ∧ x ≤ 3) : SeenAt (w.setCell ⟨g, x.toNat, none⟩ (.bool true)) g (x :: seen) := by
  unfold SeenAt at h ⊢
  have := blk_set h x.toNat (.bool true)
  obtain rfl | rfl | rfl | rfl : x = 0 ∨ x = 1 ∨ x = 2 ∨ x = 3 := by omega
  all_goals (rw [this]; simp [List.contains_cons])
theorem SeenAt.get {w : World} {g : Nat} {seen : List Int} (h : SeenAt w g seen) (x : Int) (hx : 0 ≤ x ∧ x ≤ 3) : w.cell? ⟨g, x.toNat, none⟩ = some (.bool (seen.contains x)) ∧ w.frozen? ⟨g, x.toNat, none⟩ = false := by
  unfold SeenAt at h
  refine ⟨?_, blk_frozen h _⟩
  rw [blk_cell h]
  obtain rfl | rfl | rfl | rfl : x = 0 ∨ x = 1 ∨ x = 2 ∨ x = 3 := by omega
  all_goals rfl

set_option maxHeartbeats 4000000 in
set_option maxRecDepth 100000 in
theorem bidValid_calls (w0 w : World) (s p : Int) (A : Option Addr) (c : Nat) (l : List Int) (hB : Below w0.heap.size w0 w) (hC : (Kd.int .i64).C w A l.length l) (hc : l.length ≤ c) :
    Calls Try.prog 18 #[.agg #[.int .i64 s, .int .i64 p, .slice A l.length c]] w (fun r w' => r = .returned (.bool (validB s p l)) ∧ Below w0.heap.size w0 w' ∧ Kept w w' (fun _ => False)) := by
  have HB := Lib.hid (below_alloc' hB (.cells #[.int .i64 s, .int .i64 p, .slice A l.length c] 37))
  have HK := Lib.hid ((Kept.refl w (fun _ => False)).alloc (.cells #[.int .i64 s, .int .i64 p, .slice A l.length c] 37))
  have HC := Lib.hid hC
  have HL := Lib.hid hc
  have HB0 := Lib.hid hB.size
  clear hB hC hc
  by_cases a1 : s < 0
  · have d1 : decide (s < 0) = true := decide_eq_true a1
    have HR := Lib.hid (show validB s p l = false by unfold validB; rw [show decide (0 ≤ s) = false from decide_eq_false (by omega)]; rfl)
    clear a1
    go_enter Try.func18, Try.ntmps18
    go_wp2_with fail
    go_ret
    exact ⟨by rw [HR.out]; rfl, HB.out, HK.out⟩
  have d1 : decide (s < 0) = false := decide_eq_false a1
  by_cases a2 : 512 ≤ s
  · have d2 : decide (512 ≤ s) = true := decide_eq_true a2
    have HR := Lib.hid (show validB s p l = false by unfold validB; rw [show decide (s ≤ 511) = false from decide_eq_false (by omega)]; simp)
    clear a1 a2
    go_enter Try.func18, Try.ntmps18
    go_wp2_with fail
    go_ret
    exact ⟨by rw [HR.out]; rfl, HB.out, HK.out⟩
  have d2 : decide (512 ≤ s) = false := decide_eq_false a2
  by_cases a3 : 3 < l.length
  · have d3 : decide (3 < (l.length : Int)) = true := decide_eq_true (by omega)
    have HR := Lib.hid (show validB s p l = false by unfold validB; rw [show decide (l.length ≤ 3) = false from decide_eq_false (by omega)]; simp)
    clear a1 a2 a3
    go_enter Try.func18, Try.ntmps18
    go_wp2_with fail
    go_ret
    exact ⟨by rw [HR.out]; rfl, HB.out, HK.out⟩
  have d3 : decide (3 < (l.length : Int)) = false := decide_eq_false (by omega)
  have HV := Lib.hid (show validB s p l = okL (p :: l) [] by unfold validB; rw [show decide (0 ≤ s) = true from decide_eq_true (by omega), show decide (s ≤ 511) = true from decide_eq_true (by omega), show decide (l.length ≤ 3) = true from decide_eq_true (by omega)]; rfl)
  obtain ⟨W1, hW1⟩ : ∃ W1, W1 = (w.alloc (.cells #[.int .i64 s, .int .i64 p, .slice A l.length c] 37)).alloc (.cells #[.bool false, .bool false, .bool false, .bool false] 68) := ⟨_, rfl⟩
  have HB1 := Lib.hid (show Below w0.heap.size w0 W1 by rw [hW1]; exact below_alloc' HB.out _)
  have HK1 := Lib.hid (show Kept w W1 (fun _ => False) by rw [hW1]; exact HK.out.alloc _)
  have HG := Lib.hid (show SeenAt W1 (w.heap.size + 1) [] by
    rw [hW1]; have := blk_new (w.alloc (.cells #[.int .i64 s, .int .i64 p, .slice A l.length c] 37)) (.cells #[.bool false, .bool false, .bool false, .bool false] 68); simpa [SeenAt] using this)
  have HNM := Lib.hid (named_calls w0 W1 s p A c l HB1.out (C_none HC.out HK1.out) HL.out (by omega))
  unfold NamedPost at HNM
  have HLN := Lib.hid (show (p :: l).length = l.length + 1 from rfl)
  generalize hL : p :: l = L at HNM HV HLN
  have hln : L.length ≤ 4 := by rw [HLN.out]; omega
  clear HLN hL a1 a2 a3
  subst hW1
  go_enter Try.func18, Try.ntmps18
  go_wp2_with fail
  refine HNM.out.mono ?_
  rintro r w2 ⟨A2, c2, rfl, hc2, hC2, hB2, hK2⟩
  have HC2 := Lib.hid hC2; have HB2 := Lib.hid hB2; have HK2 := Lib.hid (HK1.out.then_ hK2 (fun _ h => h.elim))
  have HG2 := Lib.hid (show SeenAt w2 (w.heap.size + 1) [] from blk_kept HG.out hK2 id)
  clear hc2 hC2 hB2 hK2 HG HB1 HK1 HB HK HNM
  go_wp2_with fail
  go_loopg [23] L.length (fun g v23 w' => ∃ k : Nat, v23 = .int .i64 k ∧ k ≤ L.length ∧ Aside0 (g + k = L.length) ∧ Aside0 (okL L [] = okL (L.drop k) (L.take k).reverse) ∧ Aside0 (Kept w2 w' (fun k => k = w.heap.size + 1)) ∧ Aside0 (Below w0.heap.size w0 w') ∧ Aside0 (SeenAt w' (w.heap.size + 1) (L.take k).reverse))
  case atStart => exact ⟨0, rfl, Nat.zero_le _, ⟨rfl⟩, ⟨rfl⟩, ⟨Kept.refl _ _⟩, ⟨HB2.out⟩, ⟨HG2.out⟩⟩
  case round =>
    obtain ⟨k, rfl, hk, HM, HS, HKs, HBr, HGr⟩ := hrel
    have HKr := Lib.hid (HK2.out.then_ HKs.out (fun k hk => .inr (by omega)))
    have HCr := Lib.hid (HC2.out wr (HKs.out.mono (fun k hk => by simp; omega)))
    by_cases h : k < L.length
    · have q1 : decide ((k : Int) < (L.length : Int)) = true := decide_eq_true (by omega)
      obtain ⟨ad, hA, hcell⟩ := C_at HCr.out k h
      subst hA
      obtain ⟨x, hx⟩ : ∃ x, L.getD k 0 = x := ⟨_, rfl⟩
      have HST := Lib.hid (okL_step L k h HS.out x hx)
      have HTK := Lib.hid (take_cons_rev L k h)
      rw [hx] at hcell HTK
      clear hx
      by_cases b1 : x < 0
      · have e1 : decide (x < 0) = true := decide_eq_true b1
        have HR := Lib.hid (show okL L [] = false by rw [HST.out, show decide (0 ≤ x) = false from decide_eq_false (by omega)]; rfl)
        clear b1
        go_wp2_with fail
        go_ret
        exact ⟨by rw [HV.out, HR.out]; rfl, HBr.out, HKr.out⟩
      have e1 : decide (x < 0) = false := decide_eq_false b1
      by_cases b2 : 3 < x
      · have e2 : decide (3 < x) = true := decide_eq_true b2
        have HR := Lib.hid (show okL L [] = false by rw [HST.out, show decide (x ≤ 3) = false from decide_eq_false (by omega)]; simp)
        clear b1 b2
        go_wp2_with fail
        go_ret
        exact ⟨by rw [HV.out, HR.out]; rfl, HBr.out, HKr.out⟩
      have e2 : decide (3 < x) = false := decide_eq_false b2
      have hx3 : 0 ≤ x ∧ x ≤ 3 := by omega
      obtain ⟨hg, hf⟩ := HGr.out.get x hx3
      have HG3 := Lib.hid (HGr.out.set x hx3)
      rw [show decide (0 ≤ x) = true from decide_eq_true (by omega), show decide (x ≤ 3) = true from decide_eq_true (by omega)] at HST
      obtain ⟨b, hb⟩ : ∃ b, (L.take k).reverse.contains x = b := ⟨_, rfl⟩
      rw [hb] at hg HST
      clear b1 b2 e1 e2 hb HGr
      obtain rfl | rfl | rfl | rfl : x = 0 ∨ x = 1 ∨ x = 2 ∨ x = 3 := by omega
      all_goals
        clear hx3
        have hg' := (show wr.cell? _ = some (Value.bool b) from hg)
        simp only [Int.toNat_zero, Int.toNat_one, Int.reduceToNat] at hg hf HG3
        cases b with
        | true =>
          have HR := Lib.hid (show okL L [] = false by rw [HST.out]; rfl)
          go_wp2_with fail
          go_ret
          exact ⟨by rw [HV.out, HR.out]; rfl, HBr.out, HKr.out⟩
        | false =>
          go_wp2_with fail
          go_roundg (L.length - (k + 1))
          case measure => have := HM.out; omega
          case rel => exact ⟨k + 1, by go_num, by omega, ⟨by omega⟩, ⟨HST.out⟩, ⟨HKs.out.setCell (.inl rfl) _⟩, ⟨HBr.out.setCell (by have := HB0.out; simp; omega) _⟩, ⟨by rw [HTK.out]; exact HG3.out⟩⟩
    · have q1 : decide ((k : Int) < (L.length : Int)) = false := decide_eq_false (by omega)
      have HR := Lib.hid (show okL L [] = true by rw [HS.out, List.drop_eq_nil_of_le (by omega)]; rfl)
      go_wp2_with fail
      go_ret
      exact ⟨by rw [HV.out, HR.out]; rfl, HBr.out, HKr.out⟩
end Go.Proofs.Ytmmmhkeecaangaa.Wire
namespace Go.Proofs.Ytmmmhkeecaangaa.Wire
open Go.RowKit Go.Maps Go.Proofs.YtmmmhkeecaangaaW.PrintWords Go.Proofs.YtmmmhkeecaangaaW.PrintLast Go.Proofs.YtmmmhkeecaangaaW.PrintMore
set_option linter.unusedVariables false
set_option linter.unusedSimpArgs false

/-- The closure's two variables. -/
def PairVars (w : World) (b1 b2 : Nat) (h c : Int) : Prop := w.heap[b1]? = some (.cells #[.int .i64 h] 3 (0, 0)) ∧ w.heap[b2]? = some (.cells #[.int .i64 c] 3 (0, 0))
theorem PairVars.kept {w w' : World} {b1 b2 : Nat} {h c : Int} {S : Nat → Prop} (hv : PairVars w b1 b2 h c) (hk : Kept w w' S) (h1 : ¬ S b1) (h2 : ¬ S b2) : PairVars w' b1 b2 h c := ⟨blk_kept hv.1 hk h1, blk_kept hv.2 hk h2⟩
theorem validFor1_calls (w0 w : World) (b1 b2 : Nat) (h c o : Int) (hV : PairVars w b1 b2 h c) (hB : Below w0.heap.size w0 w) :
    Calls Try.prog 43 #[.int .i64 o, .pointer (some ⟨b1, 0, none⟩), .pointer (some ⟨b2, 0, none⟩)] w (fun r w' => r = .returned (.bool (!allowB h c o)) ∧ Below w0.heap.size w0 w' ∧ Kept w w' (fun _ => False)) := by
  have hg1 : w.cell? ⟨b1, 0, none⟩ = some (.int .i64 h) := (blk_cell hV.1 0).trans rfl
  have hg2 : w.cell? ⟨b2, 0, none⟩ = some (.int .i64 c) := (blk_cell hV.2 0).trans rfl
  have HB := Lib.hid hB
  have HA := Lib.hid (allowed_calls w h c o)
  clear hV hB
  generalize allowB h c o = b at HA
  go_enter Try.func43, Try.ntmps43
  go_wp2_with fail
  refine HA.out.mono ?_
  rintro r w1 ⟨rfl, rfl⟩
  go_wp2_with fail
  go_ret
  exact ⟨rfl, HB.out, Kept.refl _ _⟩

def validForB (s p : Int) (l : List Int) (h c : Int) : Bool := validB s p l && !((p :: l).any (fun o => !allowB h c o))
set_option maxHeartbeats 4000000 in
set_option maxRecDepth 100000 in
theorem validFor_calls (w0 w : World) (s p h c : Int) (A : Option Addr) (cp : Nat) (l : List Int) (hB : Below w0.heap.size w0 w) (hC : (Kd.int .i64).C w A l.length l) (hc : l.length ≤ cp) :
    Calls Try.prog 20 #[.agg #[.int .i64 s, .int .i64 p, .slice A l.length cp], .int .i64 h, .int .i64 c] w (fun r w' => r = .returned (.bool (validForB s p l h c)) ∧ Below w0.heap.size w0 w' ∧ Kept w w' (fun _ => False)) := by
  obtain ⟨W1, hW1⟩ : ∃ W1, W1 = ((w.alloc (.cells #[.int .i64 s, .int .i64 p, .slice A l.length cp] 37)).alloc (.cells #[.int .i64 h] 3)).alloc (.cells #[.int .i64 c] 3) := ⟨_, rfl⟩
  have HB1 := Lib.hid (show Below w0.heap.size w0 W1 by rw [hW1]; exact below_alloc' (below_alloc' (below_alloc' hB _) _) _)
  have HK1 := Lib.hid (show Kept w W1 (fun _ => False) by rw [hW1]; exact (((Kept.refl w (fun _ => False)).alloc _).alloc _).alloc _)
  have HS := Lib.hid (show W1.heap[w.heap.size]? = some (.cells #[.int .i64 s, .int .i64 p, .slice A l.length cp] 37 (0, 0)) by rw [hW1]; exact blk_alloc (blk_alloc (blk_new _ _) _) _)
  have HP := Lib.hid (show PairVars W1 (w.heap.size + 1) (w.heap.size + 2) h c by
    rw [hW1]
    refine ⟨blk_alloc ?_ _, ?_⟩
    · have := blk_new (w.alloc (.cells #[.int .i64 s, .int .i64 p, .slice A l.length cp] 37)) (.cells #[.int .i64 h] 3); simpa using this
    · have := blk_new ((w.alloc (.cells #[.int .i64 s, .int .i64 p, .slice A l.length cp] 37)).alloc (.cells #[.int .i64 h] 3)) (.cells #[.int .i64 c] 3); simpa using this)
  have HVB := Lib.hid (bidValid_calls w0 W1 s p A cp l HB1.out (C_none hC HK1.out) hc)
  have HC := Lib.hid (C_none hC HK1.out)
  have HL := Lib.hid hc
  clear hB hC hc
  cases hv : validB s p l with
  | false =>
    have HR := Lib.hid (show validForB s p l h c = false by unfold validForB; rw [hv]; rfl)
    rw [hv] at HVB
    clear hv
    subst hW1
    go_enter Try.func20, Try.ntmps20
    go_wp2_with fail
    refine HVB.out.mono ?_
    rintro r w2 ⟨rfl, hB2, hK2⟩
    have HB2 := Lib.hid hB2; have HK2 := Lib.hid (HK1.out.then_ hK2 (fun _ h => h.elim))
    clear hB2 hK2
    go_wp2_with fail
    go_ret
    exact ⟨by rw [HR.out]; rfl, HB2.out, HK2.out⟩
  | true =>
    have HR := Lib.hid (show validForB s p l h c = !((p :: l).any (fun o => !allowB h c o)) by unfold validForB; rw [hv]; rfl)
    have hl3 : l.length ≤ 3 := by
      simp [validB] at hv; omega
    rw [hv] at HVB
    clear hv
    have hbb : ∀ w2, Kept W1 w2 (fun _ => False) → w2.heap[w.heap.size]? = some (.cells #[.int .i64 s, .int .i64 p, .slice A l.length cp] 37 (0, 0)) := fun w2 hk => blk_kept HS.out hk id
    have HBB := Lib.hid hbb
    clear hbb
    subst hW1
    go_enter Try.func20, Try.ntmps20
    go_wp2_with fail
    refine HVB.out.mono ?_
    rintro r w2 ⟨rfl, hB2, hK2⟩
    have HNM := Lib.hid (named_calls w0 w2 s p A cp l hB2 (C_none HC.out hK2) HL.out (by omega))
    have hc0 : w2.cell? ⟨w.heap.size, 0, none⟩ = some (.int .i64 s) := (blk_cell (HBB.out w2 hK2) 0).trans rfl
    have hc1 : w2.cell? ⟨w.heap.size, 1, none⟩ = some (.int .i64 p) := (blk_cell (HBB.out w2 hK2) 1).trans rfl
    have hc2 : w2.cell? ⟨w.heap.size, 2, none⟩ = some (.slice A l.length cp) := (blk_cell (HBB.out w2 hK2) 2).trans rfl
    have HP2 := Lib.hid (HP.out.kept hK2 id id)
    have HB2 := Lib.hid hB2; have HK2 := Lib.hid (HK1.out.then_ hK2 (fun _ h => h.elim))
    clear hB2 hK2
    go_wp2_with fail
    refine HNM.out.mono ?_
    rintro r w3 ⟨A3, c3, rfl, hc3, hC3, hB3, hK3⟩
    have HCF := Lib.hid (containsFunc_calls w0 w3 43 (.pointer (some ⟨w.heap.size + 1, 0, none⟩)) (.pointer (some ⟨w.heap.size + 2, 0, none⟩)) (fun o => !allowB h c o) (fun _ => True) (fun W => PairVars W (w.heap.size + 1) (w.heap.size + 2) h c)
      (fun W W' hi hk => hi.kept hk id id) (fun W o => enters_ Try.func43 (by kernel_rfl) (by kernel_rfl) _ W)
      (fun W o hb hi _ => validFor1_calls w0 W _ _ h c o hi hb) (p :: l) A3 c3 hB3 (HP2.out.kept hK3 id id) (hC3 w3 (Kept.refl _ _)) (fun _ _ => trivial) (by simp; omega))
    generalize ((p :: l).any (fun o => !allowB h c o)) = b at HCF HR
    have HK3 := Lib.hid (HK2.out.then_ hK3 (fun _ h => h.elim))
    clear hc3 hC3 hB3 hK3 hc0 hc1 hc2 hl3
    go_wp2_with fail
    refine HCF.out.mono ?_
    rintro r w4 ⟨rfl, hB4, hK4⟩
    have HB4 := Lib.hid hB4; have HK4 := Lib.hid (HK3.out.then_ hK4 (fun _ h => h.elim))
    clear hB4 hK4
    go_wp2_with fail
    go_ret
    exact ⟨by rw [HR.out]; rfl, HB4.out, HK4.out⟩
end Go.Proofs.Ytmmmhkeecaangaa.Wire
namespace Go.Proofs.Ytmmmhkeecaangaa.Wire
open Go.RowKit Go.Maps Go.Proofs.YtmmmhkeecaangaaW.PrintWords Go.Proofs.YtmmmhkeecaangaaW.PrintLast Go.Proofs.YtmmmhkeecaangaaW.PrintMore
set_option linter.unusedVariables false
set_option linter.unusedSimpArgs false

def inOpt (o : Int) : Bool := decide (0 ≤ o) && decide (o ≤ 3)
/-- The first option that may be, or the last one given. -/
def pickL (seen : List Int) (c : Int) : List Int → Int
  | [] => c
  | o :: r => if seen.contains o = true then o else pickL seen c r
def chooseB (s p : Int) (l : List Int) (h c : Int) (fs : List Int) : Bool := validForB s p l h c && fs.all inOpt
def pickB (p : Int) (l : List Int) (c : Int) (fs : List Int) : Int := pickL (c :: fs.reverse) c (p :: l)
theorem all_false {p : Int → Bool} {l : List Int} {k : Nat} (h : k < l.length) (hp : p (l.getD k 0) = false) : l.all p = false := by
  rw [List.all_eq_false]
  exact ⟨_, getD_memI h, by rw [hp]; simp⟩
theorem okL_range : ∀ (L seen : List Int), okL L seen = true → ∀ x ∈ L, 0 ≤ x ∧ x ≤ 3
  | [], _, _, _, hx => by cases hx
  | o :: r, seen, h, x, hx => by
    unfold okL at h
    by_cases q : (decide (0 ≤ o) && decide (o ≤ 3) && !seen.contains o) = true
    · rw [if_pos q] at h
      simp only [Bool.and_eq_true, decide_eq_true_eq] at q
      rcases List.mem_cons.1 hx with e | e
      · subst e; exact ⟨q.1.1, q.1.2⟩
      · exact okL_range r _ h x e
    · rw [if_neg q] at h; cases h
theorem validForB_facts {s p h c : Int} {l : List Int} (hv : validForB s p l h c = true) : l.length ≤ 3 ∧ (0 ≤ c ∧ c ≤ 3) ∧ ∀ x ∈ p :: l, 0 ≤ x ∧ x ≤ 3 := by
  unfold validForB at hv
  simp only [Bool.and_eq_true, Bool.not_eq_true'] at hv
  obtain ⟨h1, h2⟩ := hv
  have h3 : allowB h c p = true := by
    have := (List.any_eq_false.1 h2) p (by simp)
    simpa using this
  unfold allowB goodB at h3
  unfold validB at h1
  simp only [Bool.and_eq_true, decide_eq_true_eq] at h1 h3
  exact ⟨h1.2.2.1, ⟨by omega, by omega⟩, okL_range _ _ h1.2.2.2⟩

def ChoosePost (w0 w : World) (ok : Bool) (v : Int) (r : Ending) (w' : World) : Prop :=
  r = .returned (.tuple #[.int .i64 (if ok = true then v else 0), .int .i64 (if ok = true then 0 else 2)]) ∧ Below w0.heap.size w0 w' ∧ Kept w w' (fun _ => False)
theorem ChoosePost.bad {w0 w w' : World} {ok : Bool} {v : Int} (h : ok = false) (hb : Below w0.heap.size w0 w') (hk : Kept w w' (fun _ => False)) : ChoosePost w0 w ok v (.returned (.tuple #[.int .i64 0, .int .i64 2])) w' := ⟨by rw [h]; rfl, hb, hk⟩
theorem ChoosePost.good {w0 w w' : World} {ok : Bool} {v x : Int} (h : ok = true) (hx : v = x) (hb : Below w0.heap.size w0 w') (hk : Kept w w' (fun _ => False)) : ChoosePost w0 w ok v (.returned (.tuple #[.int .i64 x, .int .i64 0])) w' := ⟨by rw [h, hx]; rfl, hb, hk⟩

set_option maxHeartbeats 4000000 in
set_option maxRecDepth 100000 in
theorem choose_calls (w0 w : World) (s p h c : Int) (A : Option Addr) (cp : Nat) (l : List Int) (F : Option Addr) (fp : Nat) (fs : List Int) (hB : Below w0.heap.size w0 w) (hC : (Kd.int .i64).C w A l.length l) (hc : l.length ≤ cp) (hCf : (Kd.int .i64).C w F fs.length fs) (hfl : fs.length ≤ 100000000) :
    Calls Try.prog 24 #[.agg #[.int .i64 s, .int .i64 p, .slice A l.length cp], .int .i64 h, .int .i64 c, .slice F fs.length fp] w (ChoosePost w0 w (chooseB s p l h c fs) (pickB p l c fs)) := by
  generalize hok : chooseB s p l h c fs = ok
  generalize hpv : pickB p l c fs = pv
  have HOK := Lib.hid hok
  have HPV := Lib.hid hpv
  clear hok hpv
  have HB := Lib.hid (below_alloc' hB (.cells #[.int .i64 s, .int .i64 p, .slice A l.length cp] 37))
  have HK := Lib.hid ((Kept.refl w (fun _ => False)).alloc (.cells #[.int .i64 s, .int .i64 p, .slice A l.length cp] 37))
  have HS := Lib.hid (show (w.alloc (.cells #[.int .i64 s, .int .i64 p, .slice A l.length cp] 37)).heap[w.heap.size]? = some (.cells #[.int .i64 s, .int .i64 p, .slice A l.length cp] 37 (0, 0)) from blk_new _ _)
  have HSZ := Lib.hid hB.size
  have HVF := Lib.hid (validFor_calls w0 _ s p h c A cp l HB.out (C_none hC HK.out) hc)
  have HC := Lib.hid (C_none hC HK.out)
  have HCF := Lib.hid (C_none hCf HK.out)
  have HL := Lib.hid hc
  clear hB hC hc hCf
  cases hv : validForB s p l h c with
  | false =>
    have HR := Lib.hid (show ok = false by rw [← HOK.out]; unfold chooseB; rw [hv]; rfl)
    rw [hv] at HVF
    clear hv
    go_enter Try.func24, Try.ntmps24
    go_wp2_with fail
    refine HVF.out.mono ?_
    rintro r w2 ⟨rfl, hB2, hK2⟩
    have HB2 := Lib.hid hB2; have HK2 := Lib.hid (HK.out.then_ hK2 (fun _ h => h.elim))
    clear hB2 hK2
    go_wp2_with fail
    go_ret2
    exact ChoosePost.bad HR.out HB2.out HK2.out
  | true =>
    obtain ⟨hl3, hc3, hpl⟩ := validForB_facts hv
    have HPL := Lib.hid hpl
    have HR := Lib.hid (show ok = fs.all inOpt by rw [← HOK.out]; unfold chooseB; rw [hv]; rfl)
    rw [hv] at HVF
    clear hv hpl
    go_enter Try.func24, Try.ntmps24
    go_wp2_with fail
    refine HVF.out.mono ?_
    rintro r w2 ⟨rfl, hB2, hK2⟩
    have HB2 := Lib.hid (below_alloc' hB2 (.cells #[.bool false, .bool false, .bool false, .bool false] 68))
    have HK2 := Lib.hid ((HK.out.then_ hK2 (fun _ h => h.elim)).alloc (.cells #[.bool false, .bool false, .bool false, .bool false] 68))
    have HK20 := Lib.hid (hK2.alloc (.cells #[.bool false, .bool false, .bool false, .bool false] 68))
    have hsz2 : w.heap.size + 1 ≤ w2.heap.size := by have := hK2.1; simpa using this
    have HG2 := Lib.hid (show SeenAt (w2.alloc (.cells #[.bool false, .bool false, .bool false, .bool false] 68)) w2.heap.size [] from blk_new _ _)
    clear hB2 hK2
    go_wp2_with fail
    go_loopg [22] fs.length (fun g v22 w' => ∃ k : Nat, v22 = .int .i64 k ∧ k ≤ fs.length ∧ Aside0 (g + k = fs.length) ∧ Aside0 ((fs.take k).all inOpt = true) ∧ Aside0 (Kept (w2.alloc (.cells #[.bool false, .bool false, .bool false, .bool false] 68)) w' (fun k => k = w2.heap.size)) ∧ Aside0 (Below w0.heap.size w0 w') ∧ Aside0 (SeenAt w' w2.heap.size (fs.take k).reverse))
    case atStart => exact ⟨0, rfl, Nat.zero_le _, ⟨rfl⟩, ⟨rfl⟩, ⟨Kept.refl _ _⟩, ⟨HB2.out⟩, ⟨HG2.out⟩⟩
    case round =>
      obtain ⟨k, rfl, hk, HM, HA, HKs, HBr, HGr⟩ := hrel
      have HKr := Lib.hid (HK2.out.then_ HKs.out (fun k hk => .inr (by omega)))
      have HKf := Lib.hid (HK20.out.then_ HKs.out (fun k hk => .inr (by simp; omega)))
      have HCr := Lib.hid (C_none HCF.out HKf.out)
      by_cases hlt : k < fs.length
      · have q1 : decide ((k : Int) < (fs.length : Int)) = true := decide_eq_true (by omega)
        obtain ⟨ad, hA, hcell⟩ := C_at HCr.out k hlt
        subst hA
        have HTK := Lib.hid (take_cons_rev fs k hlt)
        have HAF := Lib.hid (fun hp => all_false (p := inOpt) hlt hp)
        have HAT := Lib.hid (show ∀ x, fs.getD k 0 = x → inOpt x = true → (fs.take (k + 1)).all inOpt = true from fun x hx hi => by
          rw [List.take_add_one, List.all_append, HA.out, List.getElem?_eq_getElem hlt]
          have e : fs[k] = x := by rw [← hx]; simp [List.getD, hlt]
          simp [e, hi])
        obtain ⟨x, hx⟩ : ∃ x, fs.getD k 0 = x := ⟨_, rfl⟩
        have HAT2 := Lib.hid (HAT.out x hx)
        rw [hx] at hcell HTK HAF
        clear hx HAT
        by_cases b1 : x < 0
        · have e1 : decide (x < 0) = true := decide_eq_true b1
          have HRR := Lib.hid (HAF.out (by unfold inOpt; rw [show decide (0 ≤ x) = false from decide_eq_false (by omega)]; rfl))
          clear b1
          go_wp2_with fail
          go_ret2
          exact ChoosePost.bad (HR.out.trans HRR.out) HBr.out HKr.out
        have e1 : decide (x < 0) = false := decide_eq_false b1
        by_cases b2 : 3 < x
        · have e2 : decide (3 < x) = true := decide_eq_true b2
          have HRR := Lib.hid (HAF.out (by unfold inOpt; rw [show decide (x ≤ 3) = false from decide_eq_false (by omega)]; simp))
          clear b1 b2
          go_wp2_with fail
          go_ret2
          exact ChoosePost.bad (HR.out.trans HRR.out) HBr.out HKr.out
        have e2 : decide (3 < x) = false := decide_eq_false b2
        have hx3 : 0 ≤ x ∧ x ≤ 3 := by omega
        obtain ⟨hg, hf⟩ := HGr.out.get x hx3
        have HG3 := Lib.hid (HGr.out.set x hx3)
        have HAL := Lib.hid (HAT2.out (by unfold inOpt; rw [show decide (0 ≤ x) = true from decide_eq_true (by omega), show decide (x ≤ 3) = true from decide_eq_true (by omega)]; rfl))
        clear b1 b2 e1 e2 HGr HAT2 HAF
        generalize (fs.take k).reverse.contains x = b at hg
        obtain rfl | rfl | rfl | rfl : x = 0 ∨ x = 1 ∨ x = 2 ∨ x = 3 := by omega
        all_goals
          clear hx3
          simp only [Int.toNat_zero, Int.toNat_one, Int.reduceToNat] at hg hf HG3
          go_wp2_with fail
          go_roundg (fs.length - (k + 1))
          case measure => have := HM.out; omega
          case rel => exact ⟨k + 1, by go_num, by omega, ⟨by omega⟩, ⟨HAL.out⟩, ⟨HKs.out.setCell (.inl rfl) _⟩, ⟨HBr.out.setCell (by have := HSZ.out; simp; omega) _⟩, ⟨by rw [HTK.out]; exact HG3.out⟩⟩
      · have q1 : decide ((k : Int) < (fs.length : Int)) = false := decide_eq_false (by omega)
        have etk : fs.take k = fs := List.take_of_length_le (by omega)
        have HGf := HGr.out
        have HAf := HA.out
        rw [etk] at HGf HAf
        obtain ⟨hg, hf⟩ := HGf.get c hc3
        have HG3 := Lib.hid (HGf.set c hc3)
        have HAR := Lib.hid HAf
        have HKt := Lib.hid (HKs.out.setCell (p := ⟨w2.heap.size, c.toNat, none⟩) (.inl rfl) (.bool true))
        have HBt := Lib.hid (HBr.out.setCell (p := ⟨w2.heap.size, c.toNat, none⟩) (by have := HSZ.out; simp; omega) (.bool true))
        have HPK := Lib.hid (show pv = pickL (c :: fs.reverse) c (p :: l) from HPV.out.symm)
        have HRR := Lib.hid (HR.out.trans HAR.out)
        generalize fs.reverse.contains c = b at hg
        clear HGf HAf etk HGr HA HKr HKf HCr HCF
        obtain ⟨Wt, hWt⟩ : ∃ Wt, Wt = wr.setCell ⟨w2.heap.size, c.toNat, none⟩ (.bool true) := ⟨_, rfl⟩
        rw [← hWt] at HG3 HKt HBt
        have HWT := Lib.hid hWt.symm
        have HSt := Lib.hid (show Wt.heap[w.heap.size]? = some (.cells #[.int .i64 s, .int .i64 p, .slice A l.length cp] 37 (0, 0)) from blk_kept (blk_kept HS.out HK20.out id) HKt.out (fun hk => by have h9 : w.heap.size = w2.heap.size := hk; omega))
        have hs0 : Wt.cell? ⟨w.heap.size, 0, none⟩ = some (.int .i64 s) := (blk_cell HSt.out 0).trans rfl
        have hs1 : Wt.cell? ⟨w.heap.size, 1, none⟩ = some (.int .i64 p) := (blk_cell HSt.out 1).trans rfl
        have hs2 : Wt.cell? ⟨w.heap.size, 2, none⟩ = some (.slice A l.length cp) := (blk_cell HSt.out 2).trans rfl
        have HKw := Lib.hid (HK2.out.then_ HKt.out (fun k hk => .inr (by omega)))
        have HNM := Lib.hid (named_calls w0 Wt s p A cp l HBt.out (C_none HC.out (HK20.out.then_ HKt.out (fun k hk => .inr (by simp; omega)))) HL.out (by omega))
        unfold NamedPost at HNM
        have hln : (p :: l).length ≤ 4 := by simp; omega
        generalize p :: l = L at HNM HPK HPL hln
        clear hWt HBr HKs HM HKt
        have hcp := HKw
        have HGt : ∃ sn, sn = c :: fs.reverse := ⟨_, rfl⟩
        obtain ⟨sn, hsn⟩ := HGt
        rw [← hsn] at HG3 HPK
        have HSN := Lib.hid hsn
        clear hsn hcp
        obtain rfl | rfl | rfl | rfl : c = 0 ∨ c = 1 ∨ c = 2 ∨ c = 3 := by omega
        all_goals
          clear hc3
          have hwt := HWT.out
          simp only [Int.toNat_zero, Int.toNat_one, Int.reduceToNat] at hg hf hwt
          go_wp2_with fail
          refine HNM.out.mono ?_
          rintro r w5 ⟨A5, c5, rfl, hc5, hC5, hB5, hK5⟩
          have HC5 := Lib.hid hC5; have HB5 := Lib.hid hB5; have HK5 := Lib.hid (HKw.out.then_ hK5 (fun _ h => h.elim))
          have HG5 := Lib.hid (show SeenAt w5 w2.heap.size sn from blk_kept HG3.out hK5 id)
          clear hc5 hC5 hB5 hK5 hwt hg hf hs0 hs1 hs2
          go_wp2_with fail
          go_loopg [40] L.length (fun g v40 w' => ∃ k : Nat, v40 = .int .i64 k ∧ k ≤ L.length ∧ Aside0 (g + k = L.length) ∧ Aside0 (pv = pickL sn _ (L.drop k)) ∧ w' = w5)
          case atStart => exact ⟨0, rfl, Nat.zero_le _, ⟨rfl⟩, ⟨HPK.out⟩, rfl⟩
          case round =>
            obtain ⟨j, rfl, hj, HM, HP, rfl⟩ := hrel
            by_cases hlt2 : j < L.length
            · have q2 : decide ((j : Int) < (L.length : Int)) = true := decide_eq_true (by omega)
              obtain ⟨ad, hA, hcell⟩ := C_at (HC5.out _ (Kept.refl _ _)) j hlt2
              subst hA
              have hx3 := HPL.out (L.getD j 0) (getD_memI hlt2)
              have HPS := Lib.hid HP.out
              rw [List.drop_eq_getElem_cons hlt2] at HPS
              obtain ⟨x, hx⟩ : ∃ x, L.getD j 0 = x := ⟨_, rfl⟩
              have e : L[j] = x := by rw [← hx]; simp [List.getD, hlt2]
              rw [e] at HPS
              unfold pickL at HPS
              rw [hx] at hcell hx3
              obtain ⟨hg, hf⟩ := HG5.out.get x hx3
              obtain ⟨b, hb⟩ : ∃ b, sn.contains x = b := ⟨_, rfl⟩
              rw [hb] at hg HPS
              clear hx e hb
              obtain rfl | rfl | rfl | rfl : x = 0 ∨ x = 1 ∨ x = 2 ∨ x = 3 := by omega
              all_goals
                clear hx3
                simp only [Int.toNat_zero, Int.toNat_one, Int.reduceToNat] at hg hf
                cases b with
                | true =>
                  go_wp2_with fail
                  go_ret2
                  exact ChoosePost.good HRR.out HPS.out HB5.out HK5.out
                | false =>
                  go_wp2_with fail
                  go_roundg (L.length - (j + 1))
                  case measure => have := HM.out; omega
                  case rel => exact ⟨j + 1, by go_num, by omega, ⟨by omega⟩, ⟨HPS.out⟩, rfl⟩
            · have q2 : decide ((j : Int) < (L.length : Int)) = false := decide_eq_false (by omega)
              have HPS := Lib.hid HP.out
              rw [List.drop_eq_nil_of_le (by omega)] at HPS
              go_wp2_with fail
              go_ret2
              exact ChoosePost.good HRR.out HPS.out HB5.out HK5.out
end Go.Proofs.Ytmmmhkeecaangaa.Wire
namespace Go.Proofs.Ytmmmhkeecaangaa.Wire
open Go.RowKit Go.Maps Go.Proofs.YtmmmhkeecaangaaW.PrintWords Go.Proofs.YtmmmhkeecaangaaW.PrintLast Go.Proofs.YtmmmhkeecaangaaW.PrintMore
set_option linter.unusedVariables false
set_option linter.unusedSimpArgs false

/-- A bid: its station, first option and fallbacks. -/
structure Bid where
  f0 : Int
  f1 : Int
  f2 : List Int
def zBid : Bid := ⟨0, 0, []⟩
def kBid : Kd Bid := Kd.iso (Kd.pair (Kd.int .i64) (Kd.pair (Kd.int .i64) (Kd.slice 3 (Kd.int .i64)))) (fun x : Bid => (x.f0, x.f1, x.f2))
theorem kBid_open {w : World} {x : Bid} {cs : List Value} (h : kBid.K w x cs) : ∃ A2 c2, cs = [.int .i64 x.f0, .int .i64 x.f1, .slice A2 x.f2.length c2] ∧ x.f2.length ≤ c2 ∧ (Kd.int .i64).C w A2 x.f2.length x.f2 := by
  obtain ⟨_, _, rfl, rfl, ⟨_, _, rfl, rfl, ⟨A2, c2, rfl, l2, g2⟩⟩⟩ := h
  exact ⟨A2, c2, rfl, l2, g2⟩
theorem at_Bid {w : World} {A : Option Addr} {n : Nat} {xs : List Bid} (h : Kd.C kBid w A n xs) (i : Nat) (h1 : i < n) : ∃ ad A2 c2, A = some ad ∧ w.cell? (ad.add (i * 3)) = some (.int .i64 (xs.getD i zBid).f0) ∧ w.cell? ⟨(ad.add (i * 3)).block, (ad.add (i * 3)).off + 1, none⟩ = some (.int .i64 (xs.getD i zBid).f1) ∧ w.cell? ⟨(ad.add (i * 3)).block, (ad.add (i * 3)).off + 2, none⟩ = some (.slice A2 (xs.getD i zBid).f2.length c2) ∧ (xs.getD i zBid).f2.length ≤ c2 ∧ (Kd.int .i64).C w A2 (xs.getD i zBid).f2.length (xs.getD i zBid).f2 := by
  obtain ⟨ad, c, e, _, hK, hc0⟩ := Kd.C_get h zBid (i : Int) (by omega) (by omega)
  rw [Int.toNat_natCast] at hK hc0
  have hc : ∀ j u, c[j]? = some u → w.cell? (ad.add (i * 3 + j)) = some u := hc0
  obtain ⟨A2, c2, rfl, l2, g2⟩ := kBid_open hK
  exact ⟨ad, A2, c2, e, hc 0 _ rfl, by rw [← add_field _ _ 1 (by omega)]; exact hc 1 _ rfl, by rw [← add_field _ _ 2 (by omega)]; exact hc 2 _ rfl, l2, g2⟩

theorem heap_kBid : Kd.Heap kBid := Kd.heap_iso _ (Kd.heap_pair (Kd.heap_int .i64) (Kd.heap_pair (Kd.heap_int .i64) (Kd.heap_slice 3 (Kd.heap_int .i64))))
theorem C_noneB {w w' : World} {A : Option Addr} {n : Nat} {xs : List Bid} (h : kBid.C w A n xs) (hk : Kept w w' (fun _ => False)) : kBid.C w' A n xs :=
  heap_kBid.C (fun i hlt => hk.2 i hlt id) h
def vbL : Bool → Int → List Bid → Bool
  | _, _, [] => true
  | first, prev, b :: r => validB b.f0 b.f1 b.f2 && (first || decide (prev < b.f0)) && vbL false b.f0 r
def validBids (l : List Bid) : Bool := vbL true 0 l
theorem getD_at {α : Type} (l : List α) (z : α) (k : Nat) (h : k < l.length) : l[k] = l.getD k z := by simp [List.getD, h]
theorem vbL_step (l : List Bid) (f : Bool) (p : Int) (k : Nat) (h : k < l.length) : vbL f p (l.drop k) = (validB (l.getD k zBid).f0 (l.getD k zBid).f1 (l.getD k zBid).f2 && (f || decide (p < (l.getD k zBid).f0)) && vbL false (l.getD k zBid).f0 (l.drop (k + 1))) := by
  rw [List.drop_eq_getElem_cons h, getD_at l zBid k h]; rfl

set_option maxHeartbeats 4000000 in
set_option maxRecDepth 100000 in
theorem validBids_calls (w0 w : World) (A : Option Addr) (c : Nat) (l : List Bid) (hB : Below w0.heap.size w0 w) (hC : Kd.C kBid w A l.length l) (hl : l.length ≤ 100000000) :
    Calls Try.prog 22 #[.slice A l.length c] w (fun r w' => r = .returned (.bool (validBids l)) ∧ Below w0.heap.size w0 w' ∧ Kept w w' (fun _ => False)) := by
  have HB := Lib.hid hB
  have HC := Lib.hid hC
  obtain ⟨vb, hvb⟩ : ∃ vb, validBids l = vb := ⟨_, rfl⟩
  have HVB := Lib.hid hvb
  rw [hvb]
  clear hB hC hvb
  go_enter Try.func22, Try.ntmps22
  go_wp2_with fail
  go_loopg [7] l.length (fun g v7 w' => ∃ k : Nat, v7 = .int .i64 k ∧ k ≤ l.length ∧ Aside0 (g + k = l.length) ∧ Aside0 (vb = vbL (k == 0) (if k = 0 then 0 else (l.getD (k - 1) zBid).f0) (l.drop k)) ∧ Aside0 (Kept w w' (fun _ => False)) ∧ Aside0 (Below w0.heap.size w0 w'))
  case atStart => exact ⟨0, rfl, Nat.zero_le _, ⟨rfl⟩, ⟨HVB.out.symm⟩, ⟨Kept.refl _ _⟩, ⟨HB.out⟩⟩
  case round =>
    obtain ⟨k, rfl, hk, HM, HV, HK, HBr⟩ := hrel
    by_cases h : k < l.length
    · have q1 : decide ((k : Int) < (l.length : Int)) = true := decide_eq_true (by omega)
      have HVS := Lib.hid (HV.out.trans (vbL_step l _ _ k h))
      have HCr := Lib.hid (C_noneB HC.out HK.out)
      obtain ⟨ad, A2, c2, hA, e0, e1, e2, hl2, hC2⟩ := at_Bid HCr.out k h
      obtain ⟨x, hx⟩ : ∃ x, l.getD k zBid = x := ⟨_, rfl⟩
      rw [hx] at e0 e1 e2 hl2 hC2 HVS
      subst hA
      obtain ⟨W1, hW1⟩ : ∃ W1, W1 = wr.alloc (.cells #[.int .i64 x.f0, .int .i64 x.f1, .slice A2 x.f2.length c2] 37) := ⟨_, rfl⟩
      have HB1 := Lib.hid (show Below w0.heap.size w0 W1 by rw [hW1]; exact below_alloc' HBr.out _)
      have HK1 := Lib.hid (show Kept wr W1 (fun _ => False) by rw [hW1]; exact (Kept.refl _ _).alloc _)
      have HG1 := Lib.hid (show W1.heap[wr.heap.size]? = some (.cells #[.int .i64 x.f0, .int .i64 x.f1, .slice A2 x.f2.length c2] 37 (0, 0)) by rw [hW1]; exact blk_new _ _)
      have HVV := Lib.hid (fun W (hk : Kept W1 W (fun _ => False)) (hb : Below w0.heap.size w0 W) => bidValid_calls w0 W x.f0 x.f1 A2 c2 x.f2 hb (C_none hC2 (HK1.out.then_ hk (fun _ h => h.elim))) hl2)
      have HW1 := Lib.hid hW1.symm
      clear hW1 hl2 hC2
      have hk0 : 0 ≤ (k : Int) := by omega
      cases hv : validB x.f0 x.f1 x.f2 with
      | false =>
        have HE := Lib.hid (show vb = false by rw [HVS.out, hv]; rfl)
        rw [hv] at HVV
        clear hv hx
        go_wp2_with fail
        rw [HW1.out]
        refine wp_region_noPanic ?_
        refine wp_region_held_drew (S := fun W => Kept W1 W (fun _ => False) ∧ Below w0.heap.size w0 W) (by kernel_rfl) ⟨(Kept.refl _ _).drew, below_drew HB1.out⟩ (fun hS => ?_)
        (refine wpAnyH_takeG (i := 0) (by kernel_rfl) (by kernel_rfl) (by kernel_rfl) (fun _ _ _ _ _ h => h) hS ?_; intro oi hoi; simp only [List.getElem?_toArray, List.getElem?_cons_succ, List.getElem?_cons_zero] at hoi; cases hoi; refine ⟨?_, by rfl, ?_, ?_⟩; rotate_left; (focus (intro wS hSw; have g0 := (blk_cell (blk_kept HG1.out hSw.1 id) 0).trans rfl; have g1 := (blk_cell (blk_kept HG1.out hSw.1 id) 1).trans rfl; have g2 := (blk_cell (blk_kept HG1.out hSw.1 id) 2).trans rfl; go_simp; (first | done | with_reducible rfl))); (try simp only [Act.put, List.setIfInBounds_toArray, List.set_cons_zero, List.set_cons_succ]))
        (refine wpAnyH_oneG (i := 1) (by kernel_rfl) ?_; intro oi hoi K' hK; simp only [List.getElem?_toArray, List.getElem?_cons_succ, List.getElem?_cons_zero] at hoi; cases hoi; go_simp; refine (HVV.out _ hS.1 hS.2).mono ?_; rintro r w2 ⟨rfl, hB2, hK2⟩; have HB2 := Lib.hid hB2; have HK2 := Lib.hid (hS.1.then_ hK2 (fun _ h => h.elim)); clear hB2 hK2; go_wp2_with fail)
        (refine hK.out _ _ ?_ (fun hS => ?_); (focus (exact ⟨HK2.out, HB2.out⟩)); clear hK K'; (try simp only [Act.put, List.setIfInBounds_toArray, List.set_cons_zero, List.set_cons_succ]))
        (refine wpAnyH_takeG (i := 2) (by kernel_rfl) (by kernel_rfl) (by kernel_rfl) (fun _ _ _ _ _ h => h) hS ?_; intro oi hoi; simp only [List.getElem?_toArray, List.getElem?_cons_succ, List.getElem?_cons_zero] at hoi; cases hoi; refine ⟨?_, by rfl, ?_, ?_⟩; rotate_left; (focus (intro wS hSw; skip; go_simp; (first | done | with_reducible rfl))); (try simp only [Act.put, List.setIfInBounds_toArray, List.set_cons_zero, List.set_cons_succ])); (refine wpAnyH_takeG (i := 3) (by kernel_rfl) (by kernel_rfl) (by kernel_rfl) (fun _ _ _ _ _ h => h) hS ?_; intro oi hoi; simp only [List.getElem?_toArray, List.getElem?_cons_succ, List.getElem?_cons_zero] at hoi; cases hoi; refine ⟨?_, by rfl, ?_, ?_⟩; rotate_left; (focus (intro wS hSw; skip; go_simp; (first | done | with_reducible rfl))); (try simp only [Act.put, List.setIfInBounds_toArray, List.set_cons_zero, List.set_cons_succ])); (refine wpAnyH_offG (i := 4) (by kernel_rfl) (by kernel_rfl) (by kernel_rfl) (fun _ _ _ _ _ h => h) hS ?_; intro oi hoi; simp only [List.getElem?_toArray, List.getElem?_cons_succ, List.getElem?_cons_zero] at hoi; cases hoi; refine ⟨by rfl, ?_⟩; (try simp only [Act.put, List.setIfInBounds_toArray, List.set_cons_zero, List.set_cons_succ])); (refine wpAnyH_offG (i := 5) (by kernel_rfl) (by kernel_rfl) (by kernel_rfl) (fun _ _ _ _ _ h => h) hS ?_; intro oi hoi; simp only [List.getElem?_toArray, List.getElem?_cons_succ, List.getElem?_cons_zero] at hoi; cases hoi; refine ⟨by rfl, ?_⟩; (try simp only [Act.put, List.setIfInBounds_toArray, List.set_cons_zero, List.set_cons_succ])); (refine wpAnyH_offG (i := 6) (by kernel_rfl) (by kernel_rfl) (by kernel_rfl) (fun _ _ _ _ _ h => h) hS ?_; intro oi hoi; simp only [List.getElem?_toArray, List.getElem?_cons_succ, List.getElem?_cons_zero] at hoi; cases hoi; refine ⟨by rfl, ?_⟩; (try simp only [Act.put, List.setIfInBounds_toArray, List.set_cons_zero, List.set_cons_succ])); (refine wpAnyH_offG (i := 7) (by kernel_rfl) (by kernel_rfl) (by kernel_rfl) (fun _ _ _ _ _ h => h) hS ?_; intro oi hoi; simp only [List.getElem?_toArray, List.getElem?_cons_succ, List.getElem?_cons_zero] at hoi; cases hoi; refine ⟨by rfl, ?_⟩; (try simp only [Act.put, List.setIfInBounds_toArray, List.set_cons_zero, List.set_cons_succ])); (refine wpAnyH_offG (i := 8) (by kernel_rfl) (by kernel_rfl) (by kernel_rfl) (fun _ _ _ _ _ h => h) hS ?_; intro oi hoi; simp only [List.getElem?_toArray, List.getElem?_cons_succ, List.getElem?_cons_zero] at hoi; cases hoi; refine ⟨by rfl, ?_⟩; (try simp only [Act.put, List.setIfInBounds_toArray, List.set_cons_zero, List.set_cons_succ])); (refine wpAnyH_offG (i := 9) (by kernel_rfl) (by kernel_rfl) (by kernel_rfl) (fun _ _ _ _ _ h => h) hS ?_; intro oi hoi; simp only [List.getElem?_toArray, List.getElem?_cons_succ, List.getElem?_cons_zero] at hoi; cases hoi; refine ⟨by rfl, ?_⟩; (try simp only [Act.put, List.setIfInBounds_toArray, List.set_cons_zero, List.set_cons_succ])); (refine wpAnyH_offG (i := 10) (by kernel_rfl) (by kernel_rfl) (by kernel_rfl) (fun _ _ _ _ _ h => h) hS ?_; intro oi hoi; simp only [List.getElem?_toArray, List.getElem?_cons_succ, List.getElem?_cons_zero] at hoi; cases hoi; refine ⟨by rfl, ?_⟩; (try simp only [Act.put, List.setIfInBounds_toArray, List.set_cons_zero, List.set_cons_succ])); (refine wpAnyH_offG (i := 11) (by kernel_rfl) (by kernel_rfl) (by kernel_rfl) (fun _ _ _ _ _ h => h) hS ?_; intro oi hoi; simp only [List.getElem?_toArray, List.getElem?_cons_succ, List.getElem?_cons_zero] at hoi; cases hoi; refine ⟨by rfl, ?_⟩; (try simp only [Act.put, List.setIfInBounds_toArray, List.set_cons_zero, List.set_cons_succ])); (refine wpAnyH_offG (i := 12) (by kernel_rfl) (by kernel_rfl) (by kernel_rfl) (fun _ _ _ _ _ h => h) hS ?_; intro oi hoi; simp only [List.getElem?_toArray, List.getElem?_cons_succ, List.getElem?_cons_zero] at hoi; cases hoi; refine ⟨by rfl, ?_⟩; (try simp only [Act.put, List.setIfInBounds_toArray, List.set_cons_zero, List.set_cons_succ])); (refine wpAnyH_offG (i := 13) (by kernel_rfl) (by kernel_rfl) (by kernel_rfl) (fun _ _ _ _ _ h => h) hS ?_; intro oi hoi; simp only [List.getElem?_toArray, List.getElem?_cons_succ, List.getElem?_cons_zero] at hoi; cases hoi; refine ⟨by rfl, ?_⟩; (try simp only [Act.put, List.setIfInBounds_toArray, List.set_cons_zero, List.set_cons_succ])); (refine wpAnyH_offG (i := 14) (by kernel_rfl) (by kernel_rfl) (by kernel_rfl) (fun _ _ _ _ _ h => h) hS ?_; intro oi hoi; simp only [List.getElem?_toArray, List.getElem?_cons_succ, List.getElem?_cons_zero] at hoi; cases hoi; refine ⟨by rfl, ?_⟩; (try simp only [Act.put, List.setIfInBounds_toArray, List.set_cons_zero, List.set_cons_succ])); (refine wpAnyH_offG (i := 15) (by kernel_rfl) (by kernel_rfl) (by kernel_rfl) (fun _ _ _ _ _ h => h) hS ?_; intro oi hoi; simp only [List.getElem?_toArray, List.getElem?_cons_succ, List.getElem?_cons_zero] at hoi; cases hoi; refine ⟨by rfl, ?_⟩; (try simp only [Act.put, List.setIfInBounds_toArray, List.set_cons_zero, List.set_cons_succ])); (refine wpAnyH_offG (i := 16) (by kernel_rfl) (by kernel_rfl) (by kernel_rfl) (fun _ _ _ _ _ h => h) hS ?_; intro oi hoi; simp only [List.getElem?_toArray, List.getElem?_cons_succ, List.getElem?_cons_zero] at hoi; cases hoi; refine ⟨by rfl, ?_⟩; (try simp only [Act.put, List.setIfInBounds_toArray, List.set_cons_zero, List.set_cons_succ])); (refine wpAnyH_takeG (i := 17) (by kernel_rfl) (by kernel_rfl) (by kernel_rfl) (fun _ _ _ _ _ h => h) hS ?_; intro oi hoi; simp only [List.getElem?_toArray, List.getElem?_cons_succ, List.getElem?_cons_zero] at hoi; cases hoi; refine ⟨?_, by rfl, ?_, ?_⟩; rotate_left; (focus (intro wS hSw; skip; go_simp; (first | done | with_reducible rfl))); (try simp only [Act.put, List.setIfInBounds_toArray, List.set_cons_zero, List.set_cons_succ]))
        refine wpAnyH_done (by kernel_rfl) ?_ _
        refine NoPanic.normal ?_
        go_wp2_with fail
        go_ret
        exact ⟨by rw [HE.out]; rfl, HB2.out, HK.out.then_ (HK1.out.then_ HK2.out (fun _ h => h.elim)) (fun _ h => h.elim)⟩
      | true =>
        rw [hv] at HVV HVS
        clear hv
        cases k with
        | zero =>
          have HE := Lib.hid (show vb = vbL false x.f0 (l.drop 1) by rw [HVS.out]; rfl)
          have HX := Lib.hid hx
          clear hx
          have ez : ad.add (0 * 3) = ad := by rw [Nat.zero_mul]; exact Addr.add_zero' ad
          rw [ez] at e0 e1 e2
          clear ez
          go_wp2_with fail
          rw [HW1.out]
          refine wp_region_noPanic ?_
          refine wp_region_held_drew (S := fun W => Kept W1 W (fun _ => False) ∧ Below w0.heap.size w0 W) (by kernel_rfl) ⟨(Kept.refl _ _).drew, below_drew HB1.out⟩ (fun hS => ?_)
          (refine wpAnyH_takeG (i := 0) (by kernel_rfl) (by kernel_rfl) (by kernel_rfl) (fun _ _ _ _ _ h => h) hS ?_; intro oi hoi; simp only [List.getElem?_toArray, List.getElem?_cons_succ, List.getElem?_cons_zero] at hoi; cases hoi; refine ⟨?_, by rfl, ?_, ?_⟩; rotate_left; (focus (intro wS hSw; have g0 := (blk_cell (blk_kept HG1.out hSw.1 id) 0).trans rfl; have g1 := (blk_cell (blk_kept HG1.out hSw.1 id) 1).trans rfl; have g2 := (blk_cell (blk_kept HG1.out hSw.1 id) 2).trans rfl; go_simp; (first | done | with_reducible rfl))); (try simp only [Act.put, List.setIfInBounds_toArray, List.set_cons_zero, List.set_cons_succ]))
          (refine wpAnyH_oneG (i := 1) (by kernel_rfl) ?_; intro oi hoi K' hK; simp only [List.getElem?_toArray, List.getElem?_cons_succ, List.getElem?_cons_zero] at hoi; cases hoi; go_simp; refine (HVV.out _ hS.1 hS.2).mono ?_; rintro r w2 ⟨rfl, hB2, hK2⟩; have HB2 := Lib.hid hB2; have HK2 := Lib.hid (hS.1.then_ hK2 (fun _ h => h.elim)); clear hB2 hK2; go_wp2_with fail)
          (refine hK.out _ _ ?_ (fun hS => ?_); (focus (exact ⟨HK2.out, HB2.out⟩)); clear hK K'; (try simp only [Act.put, List.setIfInBounds_toArray, List.set_cons_zero, List.set_cons_succ]))
          (refine wpAnyH_takeG (i := 2) (by kernel_rfl) (by kernel_rfl) (by kernel_rfl) (fun _ _ _ _ _ h => h) hS ?_; intro oi hoi; simp only [List.getElem?_toArray, List.getElem?_cons_succ, List.getElem?_cons_zero] at hoi; cases hoi; refine ⟨?_, by rfl, ?_, ?_⟩; rotate_left; (focus (intro wS hSw; skip; go_simp; (first | done | with_reducible rfl))); (try simp only [Act.put, List.setIfInBounds_toArray, List.set_cons_zero, List.set_cons_succ])); (refine wpAnyH_takeG (i := 3) (by kernel_rfl) (by kernel_rfl) (by kernel_rfl) (fun _ _ _ _ _ h => h) hS ?_; intro oi hoi; simp only [List.getElem?_toArray, List.getElem?_cons_succ, List.getElem?_cons_zero] at hoi; cases hoi; refine ⟨?_, by rfl, ?_, ?_⟩; rotate_left; (focus (intro wS hSw; skip; go_simp; (first | done | with_reducible rfl))); (try simp only [Act.put, List.setIfInBounds_toArray, List.set_cons_zero, List.set_cons_succ])); (refine wpAnyH_takeG (i := 4) (by kernel_rfl) (by kernel_rfl) (by kernel_rfl) (fun _ _ _ _ _ h => h) hS ?_; intro oi hoi; simp only [List.getElem?_toArray, List.getElem?_cons_succ, List.getElem?_cons_zero] at hoi; cases hoi; refine ⟨?_, by rfl, ?_, ?_⟩; rotate_left; (focus (intro wS hSw; skip; go_simp; (first | done | with_reducible rfl))); (try simp only [Act.put, List.setIfInBounds_toArray, List.set_cons_zero, List.set_cons_succ])); (refine wpAnyH_takeG (i := 5) (by kernel_rfl) (by kernel_rfl) (by kernel_rfl) (fun _ _ _ _ _ h => h) hS ?_; intro oi hoi; simp only [List.getElem?_toArray, List.getElem?_cons_succ, List.getElem?_cons_zero] at hoi; cases hoi; refine ⟨?_, by rfl, ?_, ?_⟩; rotate_left; (focus (intro wS hSw; skip; go_simp; (first | done | with_reducible rfl))); (try simp only [Act.put, List.setIfInBounds_toArray, List.set_cons_zero, List.set_cons_succ])); (refine wpAnyH_takeG (i := 6) (by kernel_rfl) (by kernel_rfl) (by kernel_rfl) (fun _ _ _ _ _ h => h) hS ?_; intro oi hoi; simp only [List.getElem?_toArray, List.getElem?_cons_succ, List.getElem?_cons_zero] at hoi; cases hoi; refine ⟨?_, by rfl, ?_, ?_⟩; rotate_left; (focus (intro wS hSw; skip; go_simp; (first | done | with_reducible rfl))); (try simp only [Act.put, List.setIfInBounds_toArray, List.set_cons_zero, List.set_cons_succ])); (refine wpAnyH_offG (i := 7) (by kernel_rfl) (by kernel_rfl) (by kernel_rfl) (fun _ _ _ _ _ h => h) hS ?_; intro oi hoi; simp only [List.getElem?_toArray, List.getElem?_cons_succ, List.getElem?_cons_zero] at hoi; cases hoi; refine ⟨by rfl, ?_⟩; (try simp only [Act.put, List.setIfInBounds_toArray, List.set_cons_zero, List.set_cons_succ])); (refine wpAnyH_offG (i := 8) (by kernel_rfl) (by kernel_rfl) (by kernel_rfl) (fun _ _ _ _ _ h => h) hS ?_; intro oi hoi; simp only [List.getElem?_toArray, List.getElem?_cons_succ, List.getElem?_cons_zero] at hoi; cases hoi; refine ⟨by rfl, ?_⟩; (try simp only [Act.put, List.setIfInBounds_toArray, List.set_cons_zero, List.set_cons_succ])); (refine wpAnyH_offG (i := 9) (by kernel_rfl) (by kernel_rfl) (by kernel_rfl) (fun _ _ _ _ _ h => h) hS ?_; intro oi hoi; simp only [List.getElem?_toArray, List.getElem?_cons_succ, List.getElem?_cons_zero] at hoi; cases hoi; refine ⟨by rfl, ?_⟩; (try simp only [Act.put, List.setIfInBounds_toArray, List.set_cons_zero, List.set_cons_succ])); (refine wpAnyH_offG (i := 10) (by kernel_rfl) (by kernel_rfl) (by kernel_rfl) (fun _ _ _ _ _ h => h) hS ?_; intro oi hoi; simp only [List.getElem?_toArray, List.getElem?_cons_succ, List.getElem?_cons_zero] at hoi; cases hoi; refine ⟨by rfl, ?_⟩; (try simp only [Act.put, List.setIfInBounds_toArray, List.set_cons_zero, List.set_cons_succ])); (refine wpAnyH_offG (i := 11) (by kernel_rfl) (by kernel_rfl) (by kernel_rfl) (fun _ _ _ _ _ h => h) hS ?_; intro oi hoi; simp only [List.getElem?_toArray, List.getElem?_cons_succ, List.getElem?_cons_zero] at hoi; cases hoi; refine ⟨by rfl, ?_⟩; (try simp only [Act.put, List.setIfInBounds_toArray, List.set_cons_zero, List.set_cons_succ])); (refine wpAnyH_offG (i := 12) (by kernel_rfl) (by kernel_rfl) (by kernel_rfl) (fun _ _ _ _ _ h => h) hS ?_; intro oi hoi; simp only [List.getElem?_toArray, List.getElem?_cons_succ, List.getElem?_cons_zero] at hoi; cases hoi; refine ⟨by rfl, ?_⟩; (try simp only [Act.put, List.setIfInBounds_toArray, List.set_cons_zero, List.set_cons_succ])); (refine wpAnyH_offG (i := 13) (by kernel_rfl) (by kernel_rfl) (by kernel_rfl) (fun _ _ _ _ _ h => h) hS ?_; intro oi hoi; simp only [List.getElem?_toArray, List.getElem?_cons_succ, List.getElem?_cons_zero] at hoi; cases hoi; refine ⟨by rfl, ?_⟩; (try simp only [Act.put, List.setIfInBounds_toArray, List.set_cons_zero, List.set_cons_succ])); (refine wpAnyH_offG (i := 14) (by kernel_rfl) (by kernel_rfl) (by kernel_rfl) (fun _ _ _ _ _ h => h) hS ?_; intro oi hoi; simp only [List.getElem?_toArray, List.getElem?_cons_succ, List.getElem?_cons_zero] at hoi; cases hoi; refine ⟨by rfl, ?_⟩; (try simp only [Act.put, List.setIfInBounds_toArray, List.set_cons_zero, List.set_cons_succ])); (refine wpAnyH_offG (i := 15) (by kernel_rfl) (by kernel_rfl) (by kernel_rfl) (fun _ _ _ _ _ h => h) hS ?_; intro oi hoi; simp only [List.getElem?_toArray, List.getElem?_cons_succ, List.getElem?_cons_zero] at hoi; cases hoi; refine ⟨by rfl, ?_⟩; (try simp only [Act.put, List.setIfInBounds_toArray, List.set_cons_zero, List.set_cons_succ])); (refine wpAnyH_takeG (i := 16) (by kernel_rfl) (by kernel_rfl) (by kernel_rfl) (fun _ _ _ _ _ h => h) hS ?_; intro oi hoi; simp only [List.getElem?_toArray, List.getElem?_cons_succ, List.getElem?_cons_zero] at hoi; cases hoi; refine ⟨?_, by rfl, ?_, ?_⟩; rotate_left; (focus (intro wS hSw; skip; go_simp; (first | done | with_reducible rfl))); (try simp only [Act.put, List.setIfInBounds_toArray, List.set_cons_zero, List.set_cons_succ])); (refine wpAnyH_takeG (i := 17) (by kernel_rfl) (by kernel_rfl) (by kernel_rfl) (fun _ _ _ _ _ h => h) hS ?_; intro oi hoi; simp only [List.getElem?_toArray, List.getElem?_cons_succ, List.getElem?_cons_zero] at hoi; cases hoi; refine ⟨?_, by rfl, ?_, ?_⟩; rotate_left; (focus (intro wS hSw; skip; go_simp; (first | done | with_reducible rfl))); (try simp only [Act.put, List.setIfInBounds_toArray, List.set_cons_zero, List.set_cons_succ]))
          refine wpAnyH_done (by kernel_rfl) ?_ _
          refine NoPanic.normal ?_
          go_wp2_with fail
          go_roundg (l.length - 1)
          case measure => have := HM.out; omega
          case rel => exact ⟨1, by go_num, by omega, ⟨by omega⟩, ⟨by rw [HE.out, if_neg (by decide), show 1 - 1 = 0 from rfl, HX.out]; rfl⟩, ⟨HK.out.then_ (HK1.out.then_ HK2.out (fun _ h => h.elim)) (fun _ h => h.elim)⟩, ⟨HB2.out⟩⟩
        | succ j =>
          obtain ⟨ad', A3, c3, hA, f0, _, _, _, _⟩ := at_Bid HCr.out j (by omega)
          cases hA
          obtain ⟨y, hy⟩ : ∃ y, l.getD j zBid = y := ⟨_, rfl⟩
          rw [hy] at f0
          have HVT := Lib.hid (show vb = (decide (y.f0 < x.f0) && vbL false x.f0 (l.drop (j + 1 + 1))) by rw [HVS.out, if_neg (by omega), show j + 1 - 1 = j from rfl, hy]; rfl)
          have HF := Lib.hid (fun W (hk : Kept W1 W (fun _ => False)) => (cell_kept f0 (HK1.out.then_ hk (fun _ h => h.elim)) id))
          have hw1 : IntKind.i64.wrap (((j + 1 : Nat) : Int) - 1) = (j : Int) := by rw [IntKind.wrap_i64]; omega
          have hw2 : ((j + 1 : Nat) : Int) - 1 = (j : Int) := by omega
          have hw3 : IntKind.i64.wrap (j : Int) = (j : Int) := by rw [IntKind.wrap_i64]; omega
          have hjl : j < l.length := by omega
          have hj0 : 0 ≤ (j : Int) := by omega
          have hp : decide (0 < ((j + 1 : Nat) : Int)) = true := decide_eq_true (by omega)
          have HX := Lib.hid hx
          clear hx hy f0
          by_cases hle : x.f0 ≤ y.f0
          · have d1 : decide (x.f0 ≤ y.f0) = true := decide_eq_true hle
            have HE := Lib.hid (show vb = false by rw [HVT.out, show decide (y.f0 < x.f0) = false from decide_eq_false (by omega)]; rfl)
            clear hle
            go_wp2_with fail
            rw [HW1.out]
            refine wp_region_noPanic ?_
            refine wp_region_held_drew (S := fun W => Kept W1 W (fun _ => False) ∧ Below w0.heap.size w0 W) (by kernel_rfl) ⟨(Kept.refl _ _).drew, below_drew HB1.out⟩ (fun hS => ?_)
            (refine wpAnyH_takeG (i := 0) (by kernel_rfl) (by kernel_rfl) (by kernel_rfl) (fun _ _ _ _ _ h => h) hS ?_; intro oi hoi; simp only [List.getElem?_toArray, List.getElem?_cons_succ, List.getElem?_cons_zero] at hoi; cases hoi; refine ⟨?_, by rfl, ?_, ?_⟩; rotate_left; (focus (intro wS hSw; have g0 := (blk_cell (blk_kept HG1.out hSw.1 id) 0).trans rfl; have g1 := (blk_cell (blk_kept HG1.out hSw.1 id) 1).trans rfl; have g2 := (blk_cell (blk_kept HG1.out hSw.1 id) 2).trans rfl; go_simp; (first | done | with_reducible rfl))); (try simp only [Act.put, List.setIfInBounds_toArray, List.set_cons_zero, List.set_cons_succ]))
            (refine wpAnyH_oneG (i := 1) (by kernel_rfl) ?_; intro oi hoi K' hK; simp only [List.getElem?_toArray, List.getElem?_cons_succ, List.getElem?_cons_zero] at hoi; cases hoi; go_simp; refine (HVV.out _ hS.1 hS.2).mono ?_; rintro r w2 ⟨rfl, hB2, hK2⟩; have HB2 := Lib.hid hB2; have HK2 := Lib.hid (hS.1.then_ hK2 (fun _ h => h.elim)); clear hB2 hK2; go_wp2_with fail)
            (refine hK.out _ _ ?_ (fun hS => ?_); (focus (exact ⟨HK2.out, HB2.out⟩)); clear hK K'; (try simp only [Act.put, List.setIfInBounds_toArray, List.set_cons_zero, List.set_cons_succ]))
            (refine wpAnyH_takeG (i := 2) (by kernel_rfl) (by kernel_rfl) (by kernel_rfl) (fun _ _ _ _ _ h => h) hS ?_; intro oi hoi; simp only [List.getElem?_toArray, List.getElem?_cons_succ, List.getElem?_cons_zero] at hoi; cases hoi; refine ⟨?_, by rfl, ?_, ?_⟩; rotate_left; (focus (intro wS hSw; skip; go_simp; (first | done | with_reducible rfl))); (try simp only [Act.put, List.setIfInBounds_toArray, List.set_cons_zero, List.set_cons_succ])); (refine wpAnyH_takeG (i := 3) (by kernel_rfl) (by kernel_rfl) (by kernel_rfl) (fun _ _ _ _ _ h => h) hS ?_; intro oi hoi; simp only [List.getElem?_toArray, List.getElem?_cons_succ, List.getElem?_cons_zero] at hoi; cases hoi; refine ⟨?_, by rfl, ?_, ?_⟩; rotate_left; (focus (intro wS hSw; skip; go_simp; (first | done | with_reducible rfl))); (try simp only [Act.put, List.setIfInBounds_toArray, List.set_cons_zero, List.set_cons_succ])); (refine wpAnyH_takeG (i := 4) (by kernel_rfl) (by kernel_rfl) (by kernel_rfl) (fun _ _ _ _ _ h => h) hS ?_; intro oi hoi; simp only [List.getElem?_toArray, List.getElem?_cons_succ, List.getElem?_cons_zero] at hoi; cases hoi; refine ⟨?_, by rfl, ?_, ?_⟩; rotate_left; (focus (intro wS hSw; skip; go_simp; (first | done | with_reducible rfl))); (try simp only [Act.put, List.setIfInBounds_toArray, List.set_cons_zero, List.set_cons_succ])); (refine wpAnyH_takeG (i := 5) (by kernel_rfl) (by kernel_rfl) (by kernel_rfl) (fun _ _ _ _ _ h => h) hS ?_; intro oi hoi; simp only [List.getElem?_toArray, List.getElem?_cons_succ, List.getElem?_cons_zero] at hoi; cases hoi; refine ⟨?_, by rfl, ?_, ?_⟩; rotate_left; (focus (intro wS hSw; skip; go_simp; (first | done | with_reducible rfl))); (try simp only [Act.put, List.setIfInBounds_toArray, List.set_cons_zero, List.set_cons_succ])); (refine wpAnyH_takeG (i := 6) (by kernel_rfl) (by kernel_rfl) (by kernel_rfl) (fun _ _ _ _ _ h => h) hS ?_; intro oi hoi; simp only [List.getElem?_toArray, List.getElem?_cons_succ, List.getElem?_cons_zero] at hoi; cases hoi; refine ⟨?_, by rfl, ?_, ?_⟩; rotate_left; (focus (intro wS hSw; skip; go_simp; (first | done | with_reducible rfl))); (try simp only [Act.put, List.setIfInBounds_toArray, List.set_cons_zero, List.set_cons_succ])); (refine wpAnyH_takeG (i := 7) (by kernel_rfl) (by kernel_rfl) (by kernel_rfl) (fun _ _ _ _ _ h => h) hS ?_; intro oi hoi; simp only [List.getElem?_toArray, List.getElem?_cons_succ, List.getElem?_cons_zero] at hoi; cases hoi; refine ⟨?_, by rfl, ?_, ?_⟩; rotate_left; (focus (intro wS hSw; skip; go_simp; (first | done | with_reducible rfl))); (try simp only [Act.put, List.setIfInBounds_toArray, List.set_cons_zero, List.set_cons_succ]))
            (refine wpAnyH_takeG (i := 8) (by kernel_rfl) (by kernel_rfl) (by kernel_rfl) (fun _ _ _ _ _ h => h) hS ?_; intro oi hoi; simp only [List.getElem?_toArray, List.getElem?_cons_succ, List.getElem?_cons_zero] at hoi; cases hoi; refine ⟨?_, by rfl, ?_, ?_⟩; rotate_left; (focus (intro wS hSw; have g0 := (blk_cell (blk_kept HG1.out hSw.1 id) 0).trans rfl; go_simp; (first | done | with_reducible rfl))); (try simp only [Act.put, List.setIfInBounds_toArray, List.set_cons_zero, List.set_cons_succ]))
            (refine wpAnyH_takeG (i := 9) (by kernel_rfl) (by kernel_rfl) (by kernel_rfl) (fun _ _ _ _ _ h => h) hS ?_; intro oi hoi; simp only [List.getElem?_toArray, List.getElem?_cons_succ, List.getElem?_cons_zero] at hoi; cases hoi; refine ⟨?_, by rfl, ?_, ?_⟩; rotate_left; (focus (intro wS hSw; skip; go_simp; (first | done | with_reducible rfl))); (try simp only [Act.put, List.setIfInBounds_toArray, List.set_cons_zero, List.set_cons_succ])); (refine wpAnyH_takeG (i := 10) (by kernel_rfl) (by kernel_rfl) (by kernel_rfl) (fun _ _ _ _ _ h => h) hS ?_; intro oi hoi; simp only [List.getElem?_toArray, List.getElem?_cons_succ, List.getElem?_cons_zero] at hoi; cases hoi; refine ⟨?_, by rfl, ?_, ?_⟩; rotate_left; (focus (intro wS hSw; skip; go_simp; (first | done | with_reducible rfl))); (try simp only [Act.put, List.setIfInBounds_toArray, List.set_cons_zero, List.set_cons_succ])); (refine wpAnyH_takeG (i := 11) (by kernel_rfl) (by kernel_rfl) (by kernel_rfl) (fun _ _ _ _ _ h => h) hS ?_; intro oi hoi; simp only [List.getElem?_toArray, List.getElem?_cons_succ, List.getElem?_cons_zero] at hoi; cases hoi; refine ⟨?_, by rfl, ?_, ?_⟩; rotate_left; (focus (intro wS hSw; skip; go_simp; (first | done | with_reducible rfl))); (try simp only [Act.put, List.setIfInBounds_toArray, List.set_cons_zero, List.set_cons_succ])); (refine wpAnyH_takeG (i := 12) (by kernel_rfl) (by kernel_rfl) (by kernel_rfl) (fun _ _ _ _ _ h => h) hS ?_; intro oi hoi; simp only [List.getElem?_toArray, List.getElem?_cons_succ, List.getElem?_cons_zero] at hoi; cases hoi; refine ⟨?_, by rfl, ?_, ?_⟩; rotate_left; (focus (intro wS hSw; skip; go_simp; (first | done | with_reducible rfl))); (try simp only [Act.put, List.setIfInBounds_toArray, List.set_cons_zero, List.set_cons_succ])); (refine wpAnyH_takeG (i := 13) (by kernel_rfl) (by kernel_rfl) (by kernel_rfl) (fun _ _ _ _ _ h => h) hS ?_; intro oi hoi; simp only [List.getElem?_toArray, List.getElem?_cons_succ, List.getElem?_cons_zero] at hoi; cases hoi; refine ⟨?_, by rfl, ?_, ?_⟩; rotate_left; (focus (intro wS hSw; skip; go_simp; (first | done | with_reducible rfl))); (try simp only [Act.put, List.setIfInBounds_toArray, List.set_cons_zero, List.set_cons_succ]))
            (refine wpAnyH_takeG (i := 14) (by kernel_rfl) (by kernel_rfl) (by kernel_rfl) (fun _ _ _ _ _ h => h) hS ?_; intro oi hoi; simp only [List.getElem?_toArray, List.getElem?_cons_succ, List.getElem?_cons_zero] at hoi; cases hoi; refine ⟨?_, by rfl, ?_, ?_⟩; rotate_left; (focus (intro wS hSw; have g0 := HF.out _ hSw.1; go_simp; (first | done | with_reducible rfl))); (try simp only [Act.put, List.setIfInBounds_toArray, List.set_cons_zero, List.set_cons_succ]))
            (refine wpAnyH_takeG (i := 15) (by kernel_rfl) (by kernel_rfl) (by kernel_rfl) (fun _ _ _ _ _ h => h) hS ?_; intro oi hoi; simp only [List.getElem?_toArray, List.getElem?_cons_succ, List.getElem?_cons_zero] at hoi; cases hoi; refine ⟨?_, by rfl, ?_, ?_⟩; rotate_left; (focus (intro wS hSw; skip; go_simp; (first | done | with_reducible rfl))); (try simp only [Act.put, List.setIfInBounds_toArray, List.set_cons_zero, List.set_cons_succ])); (refine wpAnyH_takeG (i := 16) (by kernel_rfl) (by kernel_rfl) (by kernel_rfl) (fun _ _ _ _ _ h => h) hS ?_; intro oi hoi; simp only [List.getElem?_toArray, List.getElem?_cons_succ, List.getElem?_cons_zero] at hoi; cases hoi; refine ⟨?_, by rfl, ?_, ?_⟩; rotate_left; (focus (intro wS hSw; skip; go_simp; (first | done | with_reducible rfl))); (try simp only [Act.put, List.setIfInBounds_toArray, List.set_cons_zero, List.set_cons_succ])); (refine wpAnyH_takeG (i := 17) (by kernel_rfl) (by kernel_rfl) (by kernel_rfl) (fun _ _ _ _ _ h => h) hS ?_; intro oi hoi; simp only [List.getElem?_toArray, List.getElem?_cons_succ, List.getElem?_cons_zero] at hoi; cases hoi; refine ⟨?_, by rfl, ?_, ?_⟩; rotate_left; (focus (intro wS hSw; skip; go_simp; (first | done | with_reducible rfl))); (try simp only [Act.put, List.setIfInBounds_toArray, List.set_cons_zero, List.set_cons_succ]))
            refine wpAnyH_done (by kernel_rfl) ?_ _
            refine NoPanic.normal ?_
            go_wp2_with fail
            go_ret
            exact ⟨by rw [HE.out]; rfl, HB2.out, HK.out.then_ (HK1.out.then_ HK2.out (fun _ h => h.elim)) (fun _ h => h.elim)⟩
          · have d1 : decide (x.f0 ≤ y.f0) = false := decide_eq_false hle
            have HE := Lib.hid (show vb = vbL false x.f0 (l.drop (j + 1 + 1)) by rw [HVT.out, show decide (y.f0 < x.f0) = true from decide_eq_true (by omega)]; rfl)
            clear hle
            go_wp2_with fail
            rw [HW1.out]
            refine wp_region_noPanic ?_
            refine wp_region_held_drew (S := fun W => Kept W1 W (fun _ => False) ∧ Below w0.heap.size w0 W) (by kernel_rfl) ⟨(Kept.refl _ _).drew, below_drew HB1.out⟩ (fun hS => ?_)
            (refine wpAnyH_takeG (i := 0) (by kernel_rfl) (by kernel_rfl) (by kernel_rfl) (fun _ _ _ _ _ h => h) hS ?_; intro oi hoi; simp only [List.getElem?_toArray, List.getElem?_cons_succ, List.getElem?_cons_zero] at hoi; cases hoi; refine ⟨?_, by rfl, ?_, ?_⟩; rotate_left; (focus (intro wS hSw; have g0 := (blk_cell (blk_kept HG1.out hSw.1 id) 0).trans rfl; have g1 := (blk_cell (blk_kept HG1.out hSw.1 id) 1).trans rfl; have g2 := (blk_cell (blk_kept HG1.out hSw.1 id) 2).trans rfl; go_simp; (first | done | with_reducible rfl))); (try simp only [Act.put, List.setIfInBounds_toArray, List.set_cons_zero, List.set_cons_succ]))
            (refine wpAnyH_oneG (i := 1) (by kernel_rfl) ?_; intro oi hoi K' hK; simp only [List.getElem?_toArray, List.getElem?_cons_succ, List.getElem?_cons_zero] at hoi; cases hoi; go_simp; refine (HVV.out _ hS.1 hS.2).mono ?_; rintro r w2 ⟨rfl, hB2, hK2⟩; have HB2 := Lib.hid hB2; have HK2 := Lib.hid (hS.1.then_ hK2 (fun _ h => h.elim)); clear hB2 hK2; go_wp2_with fail)
            (refine hK.out _ _ ?_ (fun hS => ?_); (focus (exact ⟨HK2.out, HB2.out⟩)); clear hK K'; (try simp only [Act.put, List.setIfInBounds_toArray, List.set_cons_zero, List.set_cons_succ]))
            (refine wpAnyH_takeG (i := 2) (by kernel_rfl) (by kernel_rfl) (by kernel_rfl) (fun _ _ _ _ _ h => h) hS ?_; intro oi hoi; simp only [List.getElem?_toArray, List.getElem?_cons_succ, List.getElem?_cons_zero] at hoi; cases hoi; refine ⟨?_, by rfl, ?_, ?_⟩; rotate_left; (focus (intro wS hSw; skip; go_simp; (first | done | with_reducible rfl))); (try simp only [Act.put, List.setIfInBounds_toArray, List.set_cons_zero, List.set_cons_succ])); (refine wpAnyH_takeG (i := 3) (by kernel_rfl) (by kernel_rfl) (by kernel_rfl) (fun _ _ _ _ _ h => h) hS ?_; intro oi hoi; simp only [List.getElem?_toArray, List.getElem?_cons_succ, List.getElem?_cons_zero] at hoi; cases hoi; refine ⟨?_, by rfl, ?_, ?_⟩; rotate_left; (focus (intro wS hSw; skip; go_simp; (first | done | with_reducible rfl))); (try simp only [Act.put, List.setIfInBounds_toArray, List.set_cons_zero, List.set_cons_succ])); (refine wpAnyH_takeG (i := 4) (by kernel_rfl) (by kernel_rfl) (by kernel_rfl) (fun _ _ _ _ _ h => h) hS ?_; intro oi hoi; simp only [List.getElem?_toArray, List.getElem?_cons_succ, List.getElem?_cons_zero] at hoi; cases hoi; refine ⟨?_, by rfl, ?_, ?_⟩; rotate_left; (focus (intro wS hSw; skip; go_simp; (first | done | with_reducible rfl))); (try simp only [Act.put, List.setIfInBounds_toArray, List.set_cons_zero, List.set_cons_succ])); (refine wpAnyH_takeG (i := 5) (by kernel_rfl) (by kernel_rfl) (by kernel_rfl) (fun _ _ _ _ _ h => h) hS ?_; intro oi hoi; simp only [List.getElem?_toArray, List.getElem?_cons_succ, List.getElem?_cons_zero] at hoi; cases hoi; refine ⟨?_, by rfl, ?_, ?_⟩; rotate_left; (focus (intro wS hSw; skip; go_simp; (first | done | with_reducible rfl))); (try simp only [Act.put, List.setIfInBounds_toArray, List.set_cons_zero, List.set_cons_succ])); (refine wpAnyH_takeG (i := 6) (by kernel_rfl) (by kernel_rfl) (by kernel_rfl) (fun _ _ _ _ _ h => h) hS ?_; intro oi hoi; simp only [List.getElem?_toArray, List.getElem?_cons_succ, List.getElem?_cons_zero] at hoi; cases hoi; refine ⟨?_, by rfl, ?_, ?_⟩; rotate_left; (focus (intro wS hSw; skip; go_simp; (first | done | with_reducible rfl))); (try simp only [Act.put, List.setIfInBounds_toArray, List.set_cons_zero, List.set_cons_succ])); (refine wpAnyH_takeG (i := 7) (by kernel_rfl) (by kernel_rfl) (by kernel_rfl) (fun _ _ _ _ _ h => h) hS ?_; intro oi hoi; simp only [List.getElem?_toArray, List.getElem?_cons_succ, List.getElem?_cons_zero] at hoi; cases hoi; refine ⟨?_, by rfl, ?_, ?_⟩; rotate_left; (focus (intro wS hSw; skip; go_simp; (first | done | with_reducible rfl))); (try simp only [Act.put, List.setIfInBounds_toArray, List.set_cons_zero, List.set_cons_succ]))
            (refine wpAnyH_takeG (i := 8) (by kernel_rfl) (by kernel_rfl) (by kernel_rfl) (fun _ _ _ _ _ h => h) hS ?_; intro oi hoi; simp only [List.getElem?_toArray, List.getElem?_cons_succ, List.getElem?_cons_zero] at hoi; cases hoi; refine ⟨?_, by rfl, ?_, ?_⟩; rotate_left; (focus (intro wS hSw; have g0 := (blk_cell (blk_kept HG1.out hSw.1 id) 0).trans rfl; go_simp; (first | done | with_reducible rfl))); (try simp only [Act.put, List.setIfInBounds_toArray, List.set_cons_zero, List.set_cons_succ]))
            (refine wpAnyH_takeG (i := 9) (by kernel_rfl) (by kernel_rfl) (by kernel_rfl) (fun _ _ _ _ _ h => h) hS ?_; intro oi hoi; simp only [List.getElem?_toArray, List.getElem?_cons_succ, List.getElem?_cons_zero] at hoi; cases hoi; refine ⟨?_, by rfl, ?_, ?_⟩; rotate_left; (focus (intro wS hSw; skip; go_simp; (first | done | with_reducible rfl))); (try simp only [Act.put, List.setIfInBounds_toArray, List.set_cons_zero, List.set_cons_succ])); (refine wpAnyH_takeG (i := 10) (by kernel_rfl) (by kernel_rfl) (by kernel_rfl) (fun _ _ _ _ _ h => h) hS ?_; intro oi hoi; simp only [List.getElem?_toArray, List.getElem?_cons_succ, List.getElem?_cons_zero] at hoi; cases hoi; refine ⟨?_, by rfl, ?_, ?_⟩; rotate_left; (focus (intro wS hSw; skip; go_simp; (first | done | with_reducible rfl))); (try simp only [Act.put, List.setIfInBounds_toArray, List.set_cons_zero, List.set_cons_succ])); (refine wpAnyH_takeG (i := 11) (by kernel_rfl) (by kernel_rfl) (by kernel_rfl) (fun _ _ _ _ _ h => h) hS ?_; intro oi hoi; simp only [List.getElem?_toArray, List.getElem?_cons_succ, List.getElem?_cons_zero] at hoi; cases hoi; refine ⟨?_, by rfl, ?_, ?_⟩; rotate_left; (focus (intro wS hSw; skip; go_simp; (first | done | with_reducible rfl))); (try simp only [Act.put, List.setIfInBounds_toArray, List.set_cons_zero, List.set_cons_succ])); (refine wpAnyH_takeG (i := 12) (by kernel_rfl) (by kernel_rfl) (by kernel_rfl) (fun _ _ _ _ _ h => h) hS ?_; intro oi hoi; simp only [List.getElem?_toArray, List.getElem?_cons_succ, List.getElem?_cons_zero] at hoi; cases hoi; refine ⟨?_, by rfl, ?_, ?_⟩; rotate_left; (focus (intro wS hSw; skip; go_simp; (first | done | with_reducible rfl))); (try simp only [Act.put, List.setIfInBounds_toArray, List.set_cons_zero, List.set_cons_succ])); (refine wpAnyH_takeG (i := 13) (by kernel_rfl) (by kernel_rfl) (by kernel_rfl) (fun _ _ _ _ _ h => h) hS ?_; intro oi hoi; simp only [List.getElem?_toArray, List.getElem?_cons_succ, List.getElem?_cons_zero] at hoi; cases hoi; refine ⟨?_, by rfl, ?_, ?_⟩; rotate_left; (focus (intro wS hSw; skip; go_simp; (first | done | with_reducible rfl))); (try simp only [Act.put, List.setIfInBounds_toArray, List.set_cons_zero, List.set_cons_succ]))
            (refine wpAnyH_takeG (i := 14) (by kernel_rfl) (by kernel_rfl) (by kernel_rfl) (fun _ _ _ _ _ h => h) hS ?_; intro oi hoi; simp only [List.getElem?_toArray, List.getElem?_cons_succ, List.getElem?_cons_zero] at hoi; cases hoi; refine ⟨?_, by rfl, ?_, ?_⟩; rotate_left; (focus (intro wS hSw; have g0 := HF.out _ hSw.1; go_simp; (first | done | with_reducible rfl))); (try simp only [Act.put, List.setIfInBounds_toArray, List.set_cons_zero, List.set_cons_succ]))
            (refine wpAnyH_takeG (i := 15) (by kernel_rfl) (by kernel_rfl) (by kernel_rfl) (fun _ _ _ _ _ h => h) hS ?_; intro oi hoi; simp only [List.getElem?_toArray, List.getElem?_cons_succ, List.getElem?_cons_zero] at hoi; cases hoi; refine ⟨?_, by rfl, ?_, ?_⟩; rotate_left; (focus (intro wS hSw; skip; go_simp; (first | done | with_reducible rfl))); (try simp only [Act.put, List.setIfInBounds_toArray, List.set_cons_zero, List.set_cons_succ])); (refine wpAnyH_takeG (i := 16) (by kernel_rfl) (by kernel_rfl) (by kernel_rfl) (fun _ _ _ _ _ h => h) hS ?_; intro oi hoi; simp only [List.getElem?_toArray, List.getElem?_cons_succ, List.getElem?_cons_zero] at hoi; cases hoi; refine ⟨?_, by rfl, ?_, ?_⟩; rotate_left; (focus (intro wS hSw; skip; go_simp; (first | done | with_reducible rfl))); (try simp only [Act.put, List.setIfInBounds_toArray, List.set_cons_zero, List.set_cons_succ])); (refine wpAnyH_takeG (i := 17) (by kernel_rfl) (by kernel_rfl) (by kernel_rfl) (fun _ _ _ _ _ h => h) hS ?_; intro oi hoi; simp only [List.getElem?_toArray, List.getElem?_cons_succ, List.getElem?_cons_zero] at hoi; cases hoi; refine ⟨?_, by rfl, ?_, ?_⟩; rotate_left; (focus (intro wS hSw; skip; go_simp; (first | done | with_reducible rfl))); (try simp only [Act.put, List.setIfInBounds_toArray, List.set_cons_zero, List.set_cons_succ]))
            refine wpAnyH_done (by kernel_rfl) ?_ _
            refine NoPanic.normal ?_
            go_wp2_with fail
            go_roundg (l.length - (j + 1 + 1))
            case measure => have := HM.out; omega
            case rel => exact ⟨j + 1 + 1, by go_num, by omega, ⟨by omega⟩, ⟨by rw [HE.out, if_neg (by omega), show j + 1 + 1 - 1 = j + 1 from rfl, HX.out]; rfl⟩, ⟨HK.out.then_ (HK1.out.then_ HK2.out (fun _ h => h.elim)) (fun _ h => h.elim)⟩, ⟨HB2.out⟩⟩
    · have q1 : decide ((k : Int) < (l.length : Int)) = false := decide_eq_false (by omega)
      have HE := Lib.hid (show vb = true by rw [HV.out, List.drop_eq_nil_of_le (by omega)]; rfl)
      go_wp2_with fail
      go_ret
      exact ⟨by rw [HE.out]; rfl, HBr.out, HK.out⟩
end Go.Proofs.Ytmmmhkeecaangaa.Wire
namespace Go.Proofs.Ytmmmhkeecaangaa.Wire
open Go.RowKit Go.Maps Go.Proofs.YtmmmhkeecaangaaW.PrintWords Go.Proofs.YtmmmhkeecaangaaW.PrintLast Go.Proofs.YtmmmhkeecaangaaW.PrintMore
set_option linter.unusedVariables false
set_option linter.unusedSimpArgs false

def stepU (s : Int × List Int) (n : Int) : Int × List Int := (uintE s.1 s.2 n, uintO s.1 s.2 n)
/-- A writer that is new since w1, beside a block g that it does not touch. -/
def WInG (w0 w1 wr : World) (wb g : Nat) (s : Int × List Int) : Prop :=
  g < wr.heap.size ∧ ∃ v, WrAt wr w0.heap.size wb (fun k => w1.heap.size ≤ k ∧ k ≠ g) v s.1 s.2 ∧ Below w0.heap.size w0 wr ∧ Kept w1 wr (fun _ => False)
def WIn (w0 w1 wr : World) (wb : Nat) (s : Int × List Int) : Prop :=
  ∃ v, WrAt wr w0.heap.size wb (fun k => w1.heap.size ≤ k) v s.1 s.2 ∧ Below w0.heap.size w0 wr ∧ Kept w1 wr (fun _ => False)
theorem WInG.toIn {w0 w1 wr : World} {wb g : Nat} {s : Int × List Int} (h : WInG w0 w1 wr wb g s) : WIn w0 w1 wr wb s := by
  obtain ⟨_, v, h1, h2, h3⟩ := h
  exact ⟨v, h1.mono (fun _ h => h.1), h2, h3⟩
theorem WIn.below {w0 w1 wr : World} {wb : Nat} {s : Int × List Int} (h : WIn w0 w1 wr wb s) : Below w0.heap.size w0 wr := by obtain ⟨v, h1, h2, h3⟩ := h; exact h2
theorem WIn.kept {w0 w1 wr : World} {wb : Nat} {s : Int × List Int} (h : WIn w0 w1 wr wb s) : Kept w1 wr (fun _ => False) := by obtain ⟨v, h1, h2, h3⟩ := h; exact h3
theorem WIn.box {w0 w1 wr : World} {wb : Nat} {s : Int × List Int} (h : WIn w0 w1 wr wb s) (o : Obj) : WInG w0 w1 (wr.alloc o) wb wr.heap.size s := by
  obtain ⟨v, h1, h2, h3⟩ := h
  have hlt := blk_lt h1.blk
  exact ⟨by simp, v, ⟨h1.hb, ⟨h1.okb, by omega⟩, blk_alloc h1.blk _, Kd.R_alloc (Kd.R_mono (Kd.R_bound h1.own) (fun k h => ⟨h.1, by have := h.2.2.1; omega⟩)) _, h1.le⟩, below_alloc' h2 _, h3.alloc _⟩
theorem WInG.uint {w0 w1 wr : World} {wb g : Nat} {s : Int × List Int} (h : WInG w0 w1 wr wb g s) (n : Int) (h0 : -9223372036854775808 ≤ n) (h1 : n ≤ 9223372036854775807) :
    Calls Try.prog 44 #[.pointer (some ⟨wb, 0, none⟩), .int .i64 n] wr (fun r w' => r = .returned (.tuple #[]) ∧ WInG w0 w1 w' wb g (stepU s n) ∧ Kept wr w' (fun k => w1.heap.size ≤ k ∧ k ≠ g)) := by
  obtain ⟨hg, v, hW, hB, hK⟩ := h
  refine (uint_calls w0 wr wb _ v s.1 s.2 n hB hW h0 h1).mono ?_
  rintro r w' ⟨rfl, v', hW', hB', hK'⟩
  exact ⟨rfl, ⟨Nat.lt_of_lt_of_le hg hK'.1, v', hW'.mono (fun k hk => hk.elim id (fun h => ⟨Nat.le_trans hK.1 h, by omega⟩)), hB', hK.then_ hK' (fun k h => .inr h.1)⟩, hK'⟩
theorem WIn.uint {w0 w1 wr : World} {wb : Nat} {s : Int × List Int} (h : WIn w0 w1 wr wb s) (n : Int) (h0 : -9223372036854775808 ≤ n) (h1 : n ≤ 9223372036854775807) :
    Calls Try.prog 44 #[.pointer (some ⟨wb, 0, none⟩), .int .i64 n] wr (fun r w' => r = .returned (.tuple #[]) ∧ WIn w0 w1 w' wb (stepU s n)) := by
  obtain ⟨v, hW, hB, hK⟩ := h
  refine (uint_calls w0 wr wb _ v s.1 s.2 n hB hW h0 h1).mono ?_
  rintro r w' ⟨rfl, v', hW', hB', hK'⟩
  exact ⟨rfl, v', hW'.mono (fun k hk => hk.elim id (fun h => Nat.le_trans hK.1 h)), hB', hK.then_ hK' (fun k h => .inr h)⟩
theorem WIn.endW {w0 w1 wr : World} {wb : Nat} {s : Int × List Int} (h : WIn w0 w1 wr wb s) :
    Calls Try.prog 45 #[.pointer (some ⟨wb, 0, none⟩)] wr (EndPost w0 w1 s.1 s.2) := by
  obtain ⟨v, hW, hB, hK⟩ := h
  exact (end_calls w0 wr wb _ v s.1 s.2 hB hW).mono (fun r w' hP => hP.after hK)

def bidNums (b : Bid) : List Int := b.f0 :: b.f1 :: (b.f2.length : Int) :: b.f2
def encS (l : List Bid) : Int × List Int := (l.flatMap bidNums).foldl stepU (stepU (0, []) (l.length : Int))
def encAt (l : List Bid) (k : Nat) : Int × List Int := ((l.take k).flatMap bidNums).foldl stepU (stepU (0, []) (l.length : Int))
theorem encAt_step (l : List Bid) (k : Nat) (h : k < l.length) : encAt l (k + 1) = (l.getD k zBid).f2.foldl stepU (stepU (stepU (stepU (encAt l k) (l.getD k zBid).f0) (l.getD k zBid).f1) ((l.getD k zBid).f2.length : Int)) := by
  unfold encAt
  rw [List.take_add_one, List.getElem?_eq_getElem h, getD_at l zBid k h]
  simp [List.flatMap_append, bidNums]
def EncPost (w0 w : World) (l : List Bid) (r : Ending) (w' : World) : Prop :=
  ∃ v', r = .returned (.tuple #[v', .int .i64 (if validBids l = true then (encS l).1 else 2)]) ∧ (Kd.int .u8).R 5 w' w0.heap.size (fun k => w.heap.size ≤ k) v' (if validBids l = true ∧ (encS l).1 = 0 then (encS l).2 else []) ∧ Below w0.heap.size w0 w' ∧ Kept w w' (fun _ => False)
theorem EncPost.bad {w0 w w' : World} {l : List Bid} (h : validBids l = false) (hb : Below w0.heap.size w0 w') (hk : Kept w w' (fun _ => False)) : EncPost w0 w l (.returned (.tuple #[.slice none 0 0, .int .i64 2])) w' :=
  ⟨_, by rw [h]; rfl, by rw [if_neg (by simp [h])]; exact Kd.R_nil _ _ _ _ _, hb, hk⟩
theorem EncPost.good {w0 w w1 w' : World} {l : List Bid} {r : Ending} (h : validBids l = true) (hk : Kept w w1 (fun _ => False)) (hP : EndPost w0 w1 (encS l).1 (encS l).2 r w') : EncPost w0 w l r w' := by
  obtain ⟨v', hr, hO, hB, hK⟩ := hP
  exact ⟨v', by rw [h]; exact hr, by simp only [h, true_and]; exact Kd.R_mono hO (fun k h => Nat.le_trans hk.1 h), hB, hk.then_ hK (fun _ h => h.elim)⟩
theorem vbL_all : ∀ (l : List Bid) (f : Bool) (p : Int), vbL f p l = true → ∀ b ∈ l, validB b.f0 b.f1 b.f2 = true
  | [], _, _, _, b, hb => by cases hb
  | x :: r, f, p, h, b, hb => by
    unfold vbL at h
    simp only [Bool.and_eq_true] at h
    rcases List.mem_cons.1 hb with e | e
    · subst e; exact h.1.1
    · exact vbL_all r _ _ h.2 b e
theorem validB_facts {s p : Int} {l : List Int} (h : validB s p l = true) : (0 ≤ s ∧ s ≤ 511) ∧ l.length ≤ 3 ∧ ∀ x ∈ p :: l, 0 ≤ x ∧ x ≤ 3 := by
  unfold validB at h
  simp only [Bool.and_eq_true, decide_eq_true_eq] at h
  exact ⟨⟨h.1, h.2.1⟩, h.2.2.1, okL_range _ _ h.2.2.2⟩
theorem getD_memB {l : List Bid} {k : Nat} (h : k < l.length) : l.getD k zBid ∈ l := by
  rw [← getD_at l zBid k h]; exact List.getElem_mem h

set_option maxHeartbeats 4000000 in
set_option maxRecDepth 100000 in
theorem encode_calls (w0 w : World) (A : Option Addr) (c : Nat) (l : List Bid) (hB : Below w0.heap.size w0 w) (hC : Kd.C kBid w A l.length l) (hl : l.length ≤ 100000000) :
    Calls Try.prog 26 #[.slice A l.length c] w (EncPost w0 w l) := by
  have HC := Lib.hid hC
  have HVB := Lib.hid (validBids_calls w0 w A c l hB hC hl)
  have HSZ := Lib.hid hB.size
  clear hB hC
  cases hv : validBids l with
  | false =>
    have HV := Lib.hid hv
    rw [hv] at HVB
    clear hv
    go_enter Try.func26, Try.ntmps26
    go_wp2_with fail
    refine HVB.out.mono ?_
    rintro r w2 ⟨rfl, hB2, hK2⟩
    have HB2 := Lib.hid hB2; have HK2 := Lib.hid hK2
    clear hB2 hK2
    go_wp2_with fail
    go_ret2
    exact EncPost.bad HV.out HB2.out HK2.out
  | true =>
    have HV := Lib.hid hv
    have HVA := Lib.hid (vbL_all l true 0 hv)
    rw [hv] at HVB
    clear hv
    go_enter Try.func26, Try.ntmps26
    go_wp2_with fail
    refine HVB.out.mono ?_
    rintro r w1 ⟨rfl, hB1, hK1⟩
    have HI := Lib.hid (show WIn w0 w1 (w1.alloc (.cells #[.int .i64 0, .slice none 0 0] 73)) w1.heap.size (0, []) from ⟨_, WrAt.new hB1.size, below_alloc' hB1 _, (Kept.refl _ _).alloc _⟩)
    have HK1 := Lib.hid hK1
    have HC1 := Lib.hid (C_noneB HC.out hK1)
    clear hB1 hK1
    go_wp2_with fail
    refine (HI.out.uint _ (by omega) (by omega)).mono ?_
    rintro r w2 ⟨rfl, hI2⟩
    have HI2 := Lib.hid hI2
    clear hI2
    go_wp2_with fail
    go_loopg [17] l.length (fun g v17 w' => ∃ k : Nat, v17 = .int .i64 k ∧ k ≤ l.length ∧ Aside0 (g + k = l.length) ∧ Aside0 (WIn w0 w1 w' w1.heap.size (encAt l k)))
    case atStart => exact ⟨0, rfl, Nat.zero_le _, ⟨rfl⟩, ⟨HI2.out⟩⟩
    case round =>
      obtain ⟨k, rfl, hk, HM, HIr⟩ := hrel
      by_cases h : k < l.length
      · have q1 : decide ((k : Int) < (l.length : Int)) = true := decide_eq_true (by omega)
        obtain ⟨ad, A2, c2, hA, e0', e1', e2', hl2, hC2⟩ := at_Bid HC1.out k h
        have e0 := cell_kept e0' HIr.out.kept id; have e1 := cell_kept e1' HIr.out.kept id; have e2 := cell_kept e2' HIr.out.kept id
        clear e0' e1' e2'
        have HES := Lib.hid (encAt_step l k h)
        obtain ⟨x, hx⟩ : ∃ x, l.getD k zBid = x := ⟨_, rfl⟩
        have hvx := validB_facts (HVA.out _ (getD_memB h))
        rw [hx] at e0 e1 e2 hl2 hC2 hvx HES
        obtain ⟨⟨s0, s1⟩, l3, hxs⟩ := hvx
        have HXS := Lib.hid hxs
        have hp := hxs x.f1 (by simp)
        subst hA
        have HCX := Lib.hid hC2
        have HIa := Lib.hid (HIr.out.box (.cells #[.int .i64 x.f0, .int .i64 x.f1, .slice A2 x.f2.length c2] 37))
        have HKa := Lib.hid ((Kept.refl wr (fun _ => False)).alloc (.cells #[.int .i64 x.f0, .int .i64 x.f1, .slice A2 x.f2.length c2] 37))
        have HG := Lib.hid (show (wr.alloc (.cells #[.int .i64 x.f0, .int .i64 x.f1, .slice A2 x.f2.length c2] 37)).heap[wr.heap.size]? = some (.cells #[.int .i64 x.f0, .int .i64 x.f1, .slice A2 x.f2.length c2] 37 (0, 0)) from blk_new _ _)
        clear hxs hx hC2 hl2
        go_wp2_with fail
        refine (HIa.out.uint x.f0 (by omega) (by omega)).mono ?_
        rintro r w3 ⟨rfl, hI3, hK3⟩
        have HI3 := Lib.hid hI3; have HG3 := Lib.hid (blk_kept HG.out hK3 (fun h => h.2 rfl))
        have g1 : w3.cell? ⟨wr.heap.size, 1, none⟩ = some (.int .i64 x.f1) := (blk_cell HG3.out 1).trans rfl
        clear hI3 hK3 HIa HG
        go_wp2_with fail
        refine (HI3.out.uint x.f1 (by omega) (by omega)).mono ?_
        rintro r w4 ⟨rfl, hI4, hK4⟩
        have HI4 := Lib.hid hI4; have HG4 := Lib.hid (blk_kept HG3.out hK4 (fun h => h.2 rfl))
        have g2 : w4.cell? ⟨wr.heap.size, 2, none⟩ = some (.slice A2 x.f2.length c2) := (blk_cell HG4.out 2).trans rfl
        clear hI4 hK4 HI3 HG3 g1
        go_wp2_with fail
        refine (HI4.out.uint _ (by omega) (by omega)).mono ?_
        rintro r w5 ⟨rfl, hI5, hK5⟩
        have HI5 := Lib.hid hI5.toIn; have HG5 := Lib.hid (blk_kept HG4.out hK5 (fun h => h.2 rfl))
        have g2' : w5.cell? ⟨wr.heap.size, 2, none⟩ = some (.slice A2 x.f2.length c2) := (blk_cell HG5.out 2).trans rfl
        clear hI5 hK5 HI4 HG4 g2
        generalize hs3 : stepU (stepU (stepU (encAt l k) x.f0) x.f1) (x.f2.length : Int) = s3 at HI5 HES
        clear hs3 hp s0 s1 e0 e1 e2
        obtain ⟨wo, hwo⟩ : ∃ wo, wo = wr := ⟨_, rfl⟩
        subst hwo
        go_wp2_with fail
        go_loopg [34] x.f2.length (fun g v34 w' => ∃ j : Nat, v34 = .int .i64 j ∧ j ≤ x.f2.length ∧ Aside0 (g + j = x.f2.length) ∧ Aside0 (WIn w0 w1 w' w1.heap.size ((x.f2.take j).foldl stepU s3)))
        case atStart => exact ⟨0, rfl, Nat.zero_le _, ⟨rfl⟩, ⟨HI5.out⟩⟩
        case round =>
          obtain ⟨j, rfl, hj, HMj, HIj⟩ := hrel
          by_cases h2 : j < x.f2.length
          · have q2 : decide ((j : Int) < (x.f2.length : Int)) = true := decide_eq_true (by omega)
            obtain ⟨ad2, hA2, hcell⟩ := C_at (C_none HCX.out HIj.out.kept) j h2
            subst hA2
            have HST := Lib.hid (show (x.f2.take (j + 1)).foldl stepU s3 = stepU ((x.f2.take j).foldl stepU s3) (x.f2.getD j 0) by
              rw [List.take_add_one, List.getElem?_eq_getElem h2, getD_at x.f2 0 j h2]; simp)
            have hyr := HXS.out (x.f2.getD j 0) (List.mem_cons_of_mem _ (getD_memI h2))
            generalize x.f2.getD j 0 = y at hcell HST hyr
            go_wp2_with fail
            refine (HIj.out.uint y (by omega) (by omega)).mono ?_
            rintro r w6 ⟨rfl, hI6⟩
            have HI6 := Lib.hid hI6
            clear hI6
            go_wp2_with fail
            go_roundg (x.f2.length - (j + 1))
            case measure => have := HMj.out; omega
            case rel => exact ⟨j + 1, by go_num, by omega, ⟨by omega⟩, ⟨by rw [HST.out]; exact HI6.out⟩⟩
          · have q2 : decide ((j : Int) < (x.f2.length : Int)) = false := decide_eq_false (by omega)
            have HI7 := Lib.hid (show WIn w0 w1 wr w1.heap.size (encAt l (k + 1)) by
              have h8 := HIj.out
              rw [List.take_of_length_le (by omega)] at h8
              rw [HES.out]; exact h8)
            go_wp2_with fail
            go_roundg (l.length - (k + 1))
            case measure => have := HM.out; omega
            case rel => exact ⟨k + 1, by go_num, by omega, ⟨by omega⟩, ⟨HI7.out⟩⟩
      · have q1 : decide ((k : Int) < (l.length : Int)) = false := decide_eq_false (by omega)
        have HE := Lib.hid (show encAt l k = encS l by unfold encAt encS; rw [List.take_of_length_le (by omega)])
        have HIf := Lib.hid HIr.out
        rw [HE.out] at HIf
        go_wp2_with fail
        refine HIf.out.endW.mono ?_
        rintro r w9 hP
        obtain ⟨v9, rfl, hO, hB, hK⟩ := hP
        have HP := Lib.hid (EncPost.good (w := w) HV.out HK1.out ⟨v9, rfl, hO, hB, hK⟩)
        clear hO hB hK
        go_wp2_with fail
        go_ret2
        exact HP.out
end Go.Proofs.Ytmmmhkeecaangaa.Wire
namespace Go.Proofs.Ytmmmhkeecaangaa.Wire
open Go.RowKit Go.Maps Go.Proofs.YtmmmhkeecaangaaW.PrintWords Go.Proofs.YtmmmhkeecaangaaW.PrintLast Go.Proofs.YtmmmhkeecaangaaW.PrintMore
set_option linter.unusedVariables false
set_option linter.unusedSimpArgs false

def kb : Bid := ⟨300, 1, [3, 2]⟩
theorem kb_enc : validBids [kb] = true ∧ encS [kb] = (0, [1, 172, 2, 1, 2, 3, 2]) := by
  refine ⟨by decide +kernel, ?_⟩
  have g1 := grp_small (n := 1) (by decide); have g2 := grp_small (n := 2) (by decide); have g3 := grp_small (n := 3) (by decide)
  have g4 : grp 300 = [172, 2] := by rw [grp_big (by decide), show 300 / 128 = 2 from rfl, g2]; rfl
  simp [encS, bidNums, kb, stepU, uintE, uintO, putE, putO, g1, g2, g3, g4]
theorem kb_open : fineB 24 3 0 7 = true ∧ openL 24 3 0 7 = [0, 2, 3] := by decide +kernel
theorem kb_opt : goodB 3 1 = true ∧ rangeI 1 3 = [1, 2, 3] := by decide +kernel
theorem kb_choose : chooseB 300 1 [3, 2] 3 0 [2, 3] = true ∧ pickB 1 [3, 2] 0 [2, 3] = 3 ∧ chooseB 300 1 [3, 2] 3 0 [] = true ∧ pickB 1 [3, 2] 0 [] = 0 := by decide +kernel
theorem C_litB {w : World} {g : Nat} {A : Option Addr} {c : Nat} {fr : Nat × Nat} {x : Bid} (h : w.heap[g]? = some (.cells #[.int .i64 x.f0, .int .i64 x.f1, .slice A x.f2.length c] 37 (0, 0))) (hc : x.f2.length ≤ c) (hC : (Kd.int .i64).C w A x.f2.length x.f2) : kBid.C w (some ⟨g, 0, none⟩) [x].length [x] := by
  refine ⟨rfl, by simp, fun _ => ⟨⟨g, 0, none⟩, rfl, fun j p hj => ?_⟩⟩
  cases j with
  | succ j => simp at hj
  | zero =>
    simp only [List.getElem?_cons_zero, Option.some.injEq] at hj
    subst hj
    refine ⟨[.int .i64 x.f0, .int .i64 x.f1, .slice A x.f2.length c], rfl, ⟨[.int .i64 x.f0], [.int .i64 x.f1, .slice A x.f2.length c], rfl, rfl, ⟨[.int .i64 x.f1], [.slice A x.f2.length c], rfl, rfl, ⟨A, c, rfl, hc, hC⟩⟩⟩, fun i u hu => ?_⟩
    rw [Nat.zero_mul, Nat.zero_add, add_plain, blk_cell h]
    match i, hu with
    | 0, hu => exact hu
    | 1, hu => exact hu
    | 2, hu => exact hu
    | i + 3, hu => simp at hu

set_option maxHeartbeats 4000000 in
set_option maxRecDepth 100000 in
theorem known_calls (w : World) : Calls Try.prog 15 #[] w (fun r w' => r = .returned (.bool true) ∧ Below w.heap.size w w') := by
  obtain ⟨W1, hW1⟩ : ∃ W1, W1 = (w.alloc (.cells #[.int .i64 3, .int .i64 2] 3)).alloc (.cells #[.int .i64 300, .int .i64 1, .slice (some ⟨w.heap.size, 0, none⟩) 2 2] 37) := ⟨_, rfl⟩
  have HB1 := Lib.hid (show Below w.heap.size w W1 by rw [hW1]; exact below_alloc' (below_alloc' (Below.refl _ _) _) _)
  have HL := Lib.hid (show W1.heap[w.heap.size]? = some (.cells #[.int .i64 3, .int .i64 2] 3 (0, 0)) by rw [hW1]; exact blk_alloc (blk_new _ _) _)
  have HS := Lib.hid (show W1.heap[w.heap.size + 1]? = some (.cells #[.int .i64 300, .int .i64 1, .slice (some ⟨w.heap.size, 0, none⟩) 2 2] 37 (0, 0)) by
    rw [hW1]; have := blk_new (w.alloc (.cells #[.int .i64 3, .int .i64 2] 3)) (.cells #[.int .i64 300, .int .i64 1, .slice (some ⟨w.heap.size, 0, none⟩) 2 2] 37); simpa using this)
  have HOP := Lib.hid (options_calls w W1 3 1 HB1.out)
  unfold OptPost at HOP
  rw [kb_opt.1, kb_opt.2, if_pos rfl, if_pos rfl] at HOP
  subst hW1
  go_enter Try.func15, Try.ntmps15
  go_wp2_with fail
  refine HOP.out.mono ?_
  rintro r w2 ⟨v2, rfl, hR2, hB2, hK2⟩
  have HO := Lib.hid (open_calls w w2 24 3 0 7 (by decide) (by decide) hB2)
  unfold OpenPost at HO
  rw [kb_open.1, kb_open.2, if_pos rfl, if_pos rfl] at HO
  have HR2 := Lib.hid hR2; have HB2 := Lib.hid hB2; have HK2 := Lib.hid hK2
  clear hR2 hB2 hK2 HOP
  go_wp2_with fail
  refine HO.out.mono ?_
  rintro r w3 ⟨v3, rfl, hR3, hB3, hK3⟩
  have HR2' := Lib.hid (Kd.R_kept HR2.out hK3 (fun _ _ => id))
  have HR3 := Lib.hid hR3; have HB3 := Lib.hid hB3; have HK3 := Lib.hid (HK2.out.then_ hK3 (fun _ h => h.elim))
  have hs0 : ∀ o, (w3.alloc o).cell? ⟨w.heap.size + 1, 0, none⟩ = some (.int .i64 300) := fun o => (blk_cell (blk_alloc (blk_kept HS.out HK3.out id) o) 0).trans rfl
  have hs1 : ∀ o, (w3.alloc o).cell? ⟨w.heap.size + 1, 1, none⟩ = some (.int .i64 1) := fun o => (blk_cell (blk_alloc (blk_kept HS.out HK3.out id) o) 1).trans rfl
  have hs2 : ∀ o, (w3.alloc o).cell? ⟨w.heap.size + 1, 2, none⟩ = some (.slice (some ⟨w.heap.size, 0, none⟩) 2 2) := fun o => (blk_cell (blk_alloc (blk_kept HS.out HK3.out id) o) 2).trans rfl
  have ht0 : w3.cell? ⟨w.heap.size + 1, 0, none⟩ = some (.int .i64 300) := (blk_cell (blk_kept HS.out HK3.out id) 0).trans rfl
  have ht1 : w3.cell? ⟨w.heap.size + 1, 1, none⟩ = some (.int .i64 1) := (blk_cell (blk_kept HS.out HK3.out id) 1).trans rfl
  have ht2 : w3.cell? ⟨w.heap.size + 1, 2, none⟩ = some (.slice (some ⟨w.heap.size, 0, none⟩) 2 2) := (blk_cell (blk_kept HS.out HK3.out id) 2).trans rfl
  have HCH := Lib.hid (choose_calls w (w3.alloc (.cells #[.int .i64 2, .int .i64 3] 3)) 300 1 3 0 (some ⟨w.heap.size, 0, none⟩) 2 [3, 2] (some ⟨w3.heap.size, 0, none⟩) 2 [2, 3] (below_alloc' hB3 _)
    (C_blk (blk_alloc (blk_kept HL.out HK3.out id) _) [3, 2] rfl (by simp)) (by simp) (C_blk (blk_new _ _) [2, 3] rfl (by simp)) (by simp))
  unfold ChoosePost at HCH
  rw [kb_choose.1, kb_choose.2.1, if_pos rfl, if_pos rfl] at HCH
  clear hR3 hB3 hK3 HO HR2
  go_wp2_with fail
  refine HCH.out.mono ?_
  rintro r w4 ⟨rfl, hB4, hK4⟩
  have HK34 := Lib.hid (((Kept.refl w3 (fun _ => False)).alloc (.cells #[.int .i64 2, .int .i64 3] 3)).then_ hK4 (fun _ h => h.elim))
  have HR24 := Lib.hid (Kd.R_kept HR2'.out HK34.out (fun _ _ => id))
  have HR34 := Lib.hid (Kd.R_kept HR3.out HK34.out (fun _ _ => id))
  have HB4 := Lib.hid hB4; have HK4 := Lib.hid (HK3.out.then_ HK34.out (fun _ h => h.elim))
  clear hB4 hK4 hs0 hs1 hs2 ht0 ht1 ht2 HCH HR2' HR3 HK34
  have ht0 : w4.cell? ⟨w.heap.size + 1, 0, none⟩ = some (.int .i64 300) := (blk_cell (blk_kept HS.out HK4.out id) 0).trans rfl
  have ht1 : w4.cell? ⟨w.heap.size + 1, 1, none⟩ = some (.int .i64 1) := (blk_cell (blk_kept HS.out HK4.out id) 1).trans rfl
  have ht2 : w4.cell? ⟨w.heap.size + 1, 2, none⟩ = some (.slice (some ⟨w.heap.size, 0, none⟩) 2 2) := (blk_cell (blk_kept HS.out HK4.out id) 2).trans rfl
  have HCH := Lib.hid (choose_calls w w4 300 1 3 0 (some ⟨w.heap.size, 0, none⟩) 2 [3, 2] none 0 [] HB4.out (C_blk (blk_kept HL.out HK4.out id) [3, 2] rfl (by simp)) (by simp) (Kd.C_nil _ _) (by simp))
  unfold ChoosePost at HCH
  rw [kb_choose.2.2.1, kb_choose.2.2.2, if_pos rfl, if_pos rfl] at HCH
  go_wp2_with fail
  refine HCH.out.mono ?_
  rintro r w5 ⟨rfl, hB5, hK5⟩
  have HR25 := Lib.hid (Kd.R_kept HR24.out hK5 (fun _ _ => id))
  have HR35 := Lib.hid (Kd.R_kept HR34.out hK5 (fun _ _ => id))
  have HB5 := Lib.hid hB5; have HK5 := Lib.hid (HK4.out.then_ hK5 (fun _ h => h.elim))
  clear hB5 hK5 ht0 ht1 ht2 HCH HR24 HR34 HB4 HK4
  have ht0 : w5.cell? ⟨w.heap.size + 1, 0, none⟩ = some (.int .i64 300) := (blk_cell (blk_kept HS.out HK5.out id) 0).trans rfl
  have ht1 : w5.cell? ⟨w.heap.size + 1, 1, none⟩ = some (.int .i64 1) := (blk_cell (blk_kept HS.out HK5.out id) 1).trans rfl
  have ht2 : w5.cell? ⟨w.heap.size + 1, 2, none⟩ = some (.slice (some ⟨w.heap.size, 0, none⟩) 2 2) := (blk_cell (blk_kept HS.out HK5.out id) 2).trans rfl
  have HEN := Lib.hid (encode_calls w (w5.alloc (.cells #[.int .i64 300, .int .i64 1, .slice (some ⟨w.heap.size, 0, none⟩) 2 2] 37)) (some ⟨w5.heap.size, 0, none⟩) 1 [kb] (below_alloc' HB5.out _)
    (C_litB (x := kb) (fr := (0, 0)) (blk_new _ _) (by simp [kb]) (C_blk (blk_alloc (blk_kept HL.out HK5.out id) _) [3, 2] rfl (by simp))) (by simp))
  unfold EncPost at HEN
  rw [kb_enc.1, kb_enc.2] at HEN
  simp only [if_true, and_self] at HEN
  go_wp2_with fail
  refine HEN.out.mono ?_
  rintro r w6 ⟨v6, rfl, hR6, hB6, hK6⟩
  have HK56 := Lib.hid (((Kept.refl w5 (fun _ => False)).alloc (.cells #[.int .i64 300, .int .i64 1, .slice (some ⟨w.heap.size, 0, none⟩) 2 2] 37)).then_ hK6 (fun _ h => h.elim))
  have hr2 := Kd.R_kept HR25.out HK56.out (fun _ _ => id)
  have hr3 := Kd.R_kept HR35.out HK56.out (fun _ _ => id)
  obtain ⟨A2, c2, rfl⟩ := Kd.R_slice hr2
  obtain ⟨A3, c3, rfl⟩ := Kd.R_slice hr3
  obtain ⟨A6, c6, rfl⟩ := Kd.R_slice hR6
  have HR6 := Lib.hid hR6
  have HB6 := Lib.hid hB6
  have HCa := Lib.hid (Kd.R_reads' hr2).2.2
  have HCb := Lib.hid (Kd.R_reads' hr3).2.2
  have HCc := Lib.hid (Kd.R_reads' hR6).2.2
  clear hr2 hr3 hR6 hB6 hK6 ht0 ht1 ht2 HEN HR25 HR35
  have HT := Lib.hid (show ∀ W, Kept w6 W (fun _ => False) → (convert 48 9 (.slice A6 7 c6)).run Try.prog W = .ok (.string { data := #[1, 172, 2, 1, 2, 3, 2] }) W from fun W hk => Kd.C_string (dst := 9) Try.underlying48 Try.underlying5 Try.underlying9 (C_none HCc.out hk))
  go_wp2_with fail
  refine (same_calls _ [1, 2, 3] A2 (some ⟨w6.heap.size, 0, none⟩) c2 3 (C_none HCa.out ((Kept.refl _ _).alloc _)) (C_blk (blk_new _ _) [1, 2, 3] rfl (by simp)) (by simp)).mono ?_
  rintro r w7 ⟨rfl, n7, hw7⟩
  have HK7 := Lib.hid (show Kept w6 w7 (fun _ => False) by rw [hw7]; exact ((Kept.refl _ _).alloc _).drewN _)
  have HB7 := Lib.hid (show Below w.heap.size w w7 by rw [hw7]; exact pw_below_drewN (below_alloc' HB6.out _) _)
  clear hw7
  go_wp2_with fail
  refine (same_calls _ [0, 2, 3] A3 (some ⟨w7.heap.size, 0, none⟩) c3 3 (C_none HCb.out (HK7.out.alloc _)) (C_blk (blk_new _ _) [0, 2, 3] rfl (by simp)) (by simp)).mono ?_
  rintro r w8 ⟨rfl, n8, hw8⟩
  have HK8 := Lib.hid (show Kept w6 w8 (fun _ => False) by rw [hw8]; exact (HK7.out.alloc _).drewN _)
  have HB8 := Lib.hid (show Below w.heap.size w w8 by rw [hw8]; exact pw_below_drewN (below_alloc' HB7.out _) _)
  clear hw8
  have hcv := HT.out w8 HK8.out
  go_wp2_with fail
  go_ret
  exact ⟨rfl, HB8.out⟩
end Go.Proofs.Ytmmmhkeecaangaa.Wire
namespace Go.Proofs.Ytmmmhkeecaangaa.Wire
open Go.RowKit Go.Maps Go.Proofs.YtmmmhkeecaangaaW.PrintWords Go.Proofs.YtmmmhkeecaangaaW.PrintLast Go.Proofs.YtmmmhkeecaangaaW.PrintMore
set_option linter.unusedVariables false
set_option linter.unusedSimpArgs false

/-! A reader's state: its error and its place. -/
def uR (b : List Int) (s : Int × Nat) : Int := valR (0 : Int) s.1 (uintF b s.2)
def uS (b : List Int) (s : Int × Nat) : Int × Nat := (valE s.1 (uintF b s.2), valP s.1 s.2 (uintF b s.2))
def cR (lim : Int) (b : List Int) (s : Int × Nat) : Int := valR (0 : Int) s.1 (countF lim b s.2)
def cS (lim : Int) (b : List Int) (s : Int × Nat) : Int × Nat := (valE s.1 (countF lim b s.2), valP s.1 s.2 (countF lim b s.2))
def fbAt (b : List Int) (s : Int × Nat) : Nat → List Int × (Int × Nat)
  | 0 => ([], s)
  | j + 1 => ((fbAt b s j).1 ++ [uR b (fbAt b s j).2], uS b (fbAt b s j).2)
theorem fbAt_len (b : List Int) (s : Int × Nat) : ∀ j, (fbAt b s j).1.length = j
  | 0 => rfl
  | j + 1 => by unfold fbAt; simp [fbAt_len b s j]
def s2Of (b : List Int) (s : Int × Nat) : Int × Nat := uS b (uS b s)
def bidOf (b : List Int) (s : Int × Nat) : Bid := ⟨uR b s, uR b (uS b s), (fbAt b (cS 3 b (s2Of b s)) (cR 3 b (s2Of b s)).toNat).1⟩
def bidS (b : List Int) (s : Int × Nat) : Int × Nat := (fbAt b (cS 3 b (s2Of b s)) (cR 3 b (s2Of b s)).toNat).2
def decAt (b : List Int) (s : Int × Nat) : Nat → List Bid × (Int × Nat)
  | 0 => ([], s)
  | j + 1 => ((decAt b s j).1 ++ [bidOf b (decAt b s j).2], bidS b (decAt b s j).2)
theorem decAt_len (b : List Int) (s : Int × Nat) : ∀ j, (decAt b s j).1.length = j
  | 0 => rfl
  | j + 1 => by unfold decAt; simp [decAt_len b s j]
def decAll (b : List Int) : List Bid × (Int × Nat) := decAt b (cS 512 b (0, 0)) (cR 512 b (0, 0)).toNat
def decE (b : List Int) : Int := endE (decAll b).2.1 (decAll b).2.2 b
def decL (b : List Int) : List Bid := if decE b = 0 ∧ validBids (decAll b).1 = true then (decAll b).1 else []
def decErr (b : List Int) : Int := if decE b = 0 then (if validBids (decAll b).1 = true then 0 else 6) else decE b
theorem cR_le {lim : Int} {b : List Int} (s : Int × Nat) (h0 : 0 ≤ lim) (hby : ∀ x ∈ b, 0 ≤ x ∧ x < 256) : 0 ≤ cR lim b s ∧ cR lim b s ≤ lim := by
  unfold cR valR
  by_cases h : s.1 = 0
  · rw [if_pos h]
    cases hc : countF lim b s.2 with
    | error c => exact ⟨Int.le_refl _, h0⟩
    | ok nq =>
      obtain ⟨n, q⟩ := nq
      have := countF_range hby hc
      exact ⟨this.1, this.2.2.1⟩
  · rw [if_neg h]; exact ⟨Int.le_refl _, h0⟩

/-- The reader in its state, beside what stood at w1. -/
structure DecRd (w0 w1 wr : World) (rb : Nat) (okr : Nat → Prop) (vin : Value) (b : List Int) (s : Int × Nat) : Prop where
  rd : RdAt wr w0.heap.size rb okr vin s.1 s.2 b
  below : Below w0.heap.size w0 wr
  kept : Kept w1 wr (fun k => k = rb)
theorem DecRd.uint {w0 w1 wr : World} {rb : Nat} {okr : Nat → Prop} {vin : Value} {b : List Int} {s : Int × Nat} (h : DecRd w0 w1 wr rb okr vin b s) :
    Calls Try.prog 49 #[.pointer (some ⟨rb, 0, none⟩)] wr (fun r w' => r = .returned (.int .i64 (uR b s)) ∧ DecRd w0 w1 w' rb okr vin b (uS b s) ∧ Kept wr w' (fun k => k = rb)) := by
  refine (rdUint_calls w0 wr rb okr vin s.1 s.2 b h.below h.rd).mono ?_
  rintro r w' ⟨rfl, hL⟩
  exact ⟨rfl, ⟨hL.rd, hL.below, h.kept.then_ hL.kept (fun _ h => .inl h)⟩, hL.kept⟩
theorem DecRd.count {w0 w1 wr : World} {rb : Nat} {okr : Nat → Prop} {vin : Value} {b : List Int} {s : Int × Nat} (h : DecRd w0 w1 wr rb okr vin b s) (lim : Int) (h0 : 0 ≤ lim) (h1 : lim ≤ 1000000000) :
    Calls Try.prog 48 #[.pointer (some ⟨rb, 0, none⟩), .int .i64 lim] wr (fun r w' => r = .returned (.int .i64 (cR lim b s)) ∧ DecRd w0 w1 w' rb okr vin b (cS lim b s) ∧ Kept wr w' (fun k => k = rb)) := by
  refine (rdCount_calls w0 wr rb okr vin s.1 s.2 b lim (by omega) (by omega) h.below h.rd).mono ?_
  rintro r w' ⟨rfl, hL⟩
  exact ⟨rfl, ⟨hL.rd, hL.below, h.kept.then_ hL.kept (fun _ h => .inl h)⟩, hL.kept⟩
theorem DecRd.step {w0 w1 wr w' : World} {rb : Nat} {okr : Nat → Prop} {vin : Value} {b : List Int} {s : Int × Nat} {S : Nat → Prop} (h : DecRd w0 w1 wr rb okr vin b s) (hB : Below w0.heap.size w0 w') (hk : Kept wr w' S) (h1 : ¬ S rb) (h2 : ∀ k, okr k → ¬ S k) (h3 : ∀ k, S k → w1.heap.size ≤ k) : DecRd w0 w1 w' rb okr vin b s :=
  ⟨h.rd.kept hk h1 h2, hB, h.kept.then_ hk (fun k hk => .inr (h3 k hk))⟩
theorem DecRd.alloc {w0 w1 wr : World} {rb : Nat} {okr : Nat → Prop} {vin : Value} {b : List Int} {s : Int × Nat} (h : DecRd w0 w1 wr rb okr vin b s) (o : Obj) : DecRd w0 w1 (wr.alloc o) rb okr vin b s :=
  h.step (S := fun _ => False) (below_alloc' h.below _) ((Kept.refl _ _).alloc _) id (fun _ _ => id) (fun _ h => h.elim)
theorem DecRd.drewN {w0 w1 wr : World} {rb : Nat} {okr : Nat → Prop} {vin : Value} {b : List Int} {s : Int × Nat} (h : DecRd w0 w1 wr rb okr vin b s) (n : Nat) : DecRd w0 w1 (wr.drewN n) rb okr vin b s := ⟨h.rd.drewN n, pw_below_drewN h.below n, h.kept.drewN n⟩

/-- Inside a round: the bid's block, its fallbacks and the list so far. -/
structure DecIn (w0 w1 wr : World) (rb : Nat) (okr : Nat → Prop) (vin : Value) (b : List Int) (s : Int × Nat) (gb : Nat) (f0 f1 : Int) (fv : Value) (fb : List Int) (v5 : Value) (out : List Bid) : Prop where
  d : DecRd w0 w1 wr rb okr vin b s
  le : w1.heap.size ≤ gb
  blk : wr.heap[gb]? = some (.cells #[.int .i64 f0, .int .i64 f1, fv] 37 (0, 0))
  row : (Kd.int .i64).R 3 wr w0.heap.size (fun k => gb < k) fv fb
  out : Kd.S kBid 37 wr w0.heap.size (fun k => w1.heap.size ≤ k ∧ k < gb) v5 out

theorem infoBid : (Try.prog.info? 37).map (fun i => (i.zero, i.size, i.bytes)) = some (some (.agg #[.int .i64 0, .int .i64 0, .slice none 0 0]), 3, 40) := by kernel_rfl

def DecPost (w0 w : World) (b : List Int) (r : Ending) (w' : World) : Prop :=
  ∃ v', r = .returned (.tuple #[v', .int .i64 (decErr b)]) ∧ Kd.S kBid 37 w' w0.heap.size (fun k => w.heap.size ≤ k) v' (decL b) ∧ Below w0.heap.size w0 w' ∧ Kept w w' (fun _ => False)

theorem DecPost.err {w0 w w' : World} {b : List Int} {e : Int} (h : decE b = e) (he : ¬ e = 0) (hB : Below w0.heap.size w0 w') (hK : Kept w w' (fun _ => False)) : DecPost w0 w b (.returned (.tuple #[.slice none 0 0, .int .i64 e])) w' :=
  ⟨_, by unfold decErr; rw [h, if_neg he], by unfold decL; rw [if_neg (fun x => he (h ▸ x.1))]; exact Kd.S_nil _ _ _ _ _, hB, hK⟩
theorem DecPost.bad {w0 w w' : World} {b : List Int} (h : decE b = 0) (hv : validBids (decAll b).1 = false) (hB : Below w0.heap.size w0 w') (hK : Kept w w' (fun _ => False)) : DecPost w0 w b (.returned (.tuple #[.slice none 0 0, .int .i64 6])) w' :=
  ⟨_, by unfold decErr; rw [if_pos h, if_neg (by simp [hv])], by unfold decL; rw [if_neg (fun x => by rw [hv] at x; exact absurd x.2 (by decide))]; exact Kd.S_nil _ _ _ _ _, hB, hK⟩
theorem DecPost.good {w0 w w' : World} {b : List Int} {v : Value} {out : List Bid} (h : decE b = 0) (hv : validBids (decAll b).1 = true) (ho : (decAll b).1 = out) (hO : Kd.S kBid 37 w' w0.heap.size (fun k => w.heap.size ≤ k) v out) (hB : Below w0.heap.size w0 w') (hK : Kept w w' (fun _ => False)) : DecPost w0 w b (.returned (.tuple #[v, .int .i64 0])) w' :=
  ⟨_, by unfold decErr; rw [if_pos h, if_pos hv], by unfold decL; rw [if_pos ⟨h, hv⟩, ho]; exact hO, hB, hK⟩

set_option maxHeartbeats 8000000 in
set_option maxRecDepth 100000 in
theorem decode_calls (w0 w : World) (A : Option Addr) (c : Nat) (b : List Int) (hB : Below w0.heap.size w0 w) (hC : (Kd.int .u8).C w A b.length b) (hl : b.length ≤ 1000000000) (hby : ∀ x ∈ b, 0 ≤ x ∧ x < 256) :
    Calls Try.prog 28 #[.slice A b.length c] w (DecPost w0 w b) := by
  have HRD := Lib.hid (read_calls w0 w b A c hB hC hl hby)
  have hc1 := cR_le (lim := 512) (b := b) (0, 0) (by decide) hby
  have HCR := Lib.hid (fun s => cR_le (lim := 3) (b := b) s (by decide) hby)
  have HSZ := Lib.hid hB.size
  clear hB hC hby
  go_enter Try.func28, Try.ntmps28
  go_wp2_with fail
  refine HRD.out.mono ?_
  rintro r w1 ⟨rb, vin, rfl, hr1, hr2, hR, hB1, hK1⟩
  have HD1 := Lib.hid (show DecRd w0 w1 w1 rb (fun k => w.heap.size ≤ k ∧ k < rb) vin b (0, 0) from ⟨hR, hB1, Kept.refl _ _⟩)
  have HK1 := Lib.hid hK1
  clear hR hB1 hK1 HRD
  go_wp2_with fail
  refine (HD1.out.count 512 (by decide) (by decide)).mono ?_
  rintro r w2 ⟨rfl, hD2, hK2⟩
  have HD2 := Lib.hid hD2
  have HDA := Lib.hid (show decAll b = decAt b (cS 512 b (0, 0)) (cR 512 b (0, 0)).toNat from rfl)
  generalize cR 512 b (0, 0) = n at hc1 HDA
  generalize cS 512 b (0, 0) = s1 at hD2 HD2 HDA
  obtain ⟨m, rfl⟩ : ∃ m : Nat, n = (m : Int) := ⟨n.toNat, by omega⟩
  rw [show ((m : Int)).toNat = m by omega] at HDA
  clear hD2 hK2
  go_wp2_with fail
  go_loopg [5, 12] m (fun g v5 v12 w' => ∃ k : Nat, v12 = .int .i64 k ∧ k ≤ m ∧ Aside0 (g + k = m) ∧ Aside0 (DecRd w0 w1 w' rb (fun k => w.heap.size ≤ k ∧ k < rb) vin b (decAt b s1 k).2) ∧ Aside0 (Kd.S kBid 37 w' w0.heap.size (fun k => w1.heap.size ≤ k) v5 (decAt b s1 k).1))
  case atStart => exact ⟨0, rfl, Nat.zero_le _, ⟨rfl⟩, ⟨HD2.out⟩, ⟨Kd.S_nil _ _ _ _ _⟩⟩
  case round =>
    obtain ⟨k, rfl, hk, HM, HD, HO⟩ := hrel
    by_cases h : k < m
    · have q1 : decide ((k : Int) < (m : Int)) = true := decide_eq_true (by omega)
      have HDN := Lib.hid (show decAt b s1 (k + 1) = ((decAt b s1 k).1 ++ [bidOf b (decAt b s1 k).2], bidS b (decAt b s1 k).2) from rfl)
      have HLN := Lib.hid (decAt_len b s1 k)
      generalize (decAt b s1 k).1 = out at HO HDN HLN
      generalize (decAt b s1 k).2 = s at HD HDN
      go_wp2_with fail
      refine HD.out.uint.mono ?_
      rintro r w3 ⟨rfl, hD3, hK3⟩
      have HD3 := Lib.hid hD3
      have HO3 := Lib.hid (Kd.S_kept HO.out hK3 (fun k h1 h2 => by omega))
      clear hD3 hK3
      go_wp2_with fail
      refine HD3.out.uint.mono ?_
      rintro r w4 ⟨rfl, hD4, hK4⟩
      have HD4 := Lib.hid hD4
      have HO4 := Lib.hid (Kd.S_kept HO3.out hK4 (fun k h1 h2 => by omega))
      clear hD4 hK4 HO3 HD3
      have HBO := Lib.hid (show bidOf b s = ⟨uR b s, uR b (uS b s), (fbAt b (cS 3 b (uS b (uS b s))) (cR 3 b (uS b (uS b s))).toNat).1⟩ from rfl)
      have HBS := Lib.hid (show bidS b s = (fbAt b (cS 3 b (uS b (uS b s))) (cR 3 b (uS b (uS b s))).toNat).2 from rfl)
      have hc3 := HCR.out (uS b (uS b s))
      generalize uR b (uS b s) = f1 at HBO
      generalize uS b (uS b s) = s4 at HBO HBS HD4 hc3
      generalize uR b s = f0 at HBO
      have HI := Lib.hid (show DecIn w0 w1 (w4.alloc (.cells #[.int .i64 f0, .int .i64 f1, .slice none 0 0] 37)) rb (fun k => w.heap.size ≤ k ∧ k < rb) vin b s4 w4.heap.size f0 f1 (.slice none 0 0) [] u5 out from
        ⟨HD4.out.alloc _, HD4.out.kept.1, blk_new _ _, Kd.R_nil _ _ _ _ _, Kd.S_alloc (Kd.S_mono (Kd.S_bound HO4.out) (fun k h => ⟨h.1, h.2.2.1⟩)) _⟩)
      clear HD4 HO4
      go_wp2_with fail
      refine (HI.out.d.count 3 (by decide) (by decide)).mono ?_
      rintro r w6 ⟨rfl, hD6, hK6⟩
      have HI6 := Lib.hid (show DecIn w0 w1 w6 rb (fun k => w.heap.size ≤ k ∧ k < rb) vin b (cS 3 b s4) w4.heap.size f0 f1 (.slice none 0 0) [] u5 out from
        ⟨hD6, HI.out.le, blk_kept HI.out.blk hK6 (fun h => by have := HI.out.le; omega), Kd.R_nil _ _ _ _ _, Kd.S_kept HI.out.out hK6 (fun k h1 h2 => by have := h1.1; omega)⟩)
      clear hD6 hK6 HI
      generalize w4.heap.size = gb at HI6
      generalize cS 3 b s4 = s5 at HI6 HBO HBS
      generalize cR 3 b s4 = n2 at hc3 HBO HBS
      obtain ⟨m2, rfl⟩ : ∃ m2 : Nat, n2 = (m2 : Int) := ⟨n2.toNat, by omega⟩
      rw [show ((m2 : Int)).toNat = m2 by omega] at HBO HBS
      obtain ⟨wo, hwo⟩ : ∃ wo, wo = wr := ⟨_, rfl⟩
      subst hwo
      go_wp2_with fail
      go_loopg [21] m2 (fun g v21 w' => ∃ (j : Nat) (fv : Value), v21 = .int .i64 j ∧ j ≤ m2 ∧ Aside0 (g + j = m2) ∧ Aside0 (DecIn w0 w1 w' rb (fun k => w.heap.size ≤ k ∧ k < rb) vin b (fbAt b s5 j).2 gb f0 f1 fv (fbAt b s5 j).1 u5 out))
      case atStart => exact ⟨0, _, rfl, Nat.zero_le _, ⟨rfl⟩, ⟨HI6.out⟩⟩
      case round =>
        obtain ⟨j, fv, rfl, hj, HMj, HIj⟩ := hrel
        by_cases h2 : j < m2
        · have q2 : decide ((j : Int) < (m2 : Int)) = true := decide_eq_true (by omega)
          have HFN := Lib.hid (show fbAt b s5 (j + 1) = ((fbAt b s5 j).1 ++ [uR b (fbAt b s5 j).2], uS b (fbAt b s5 j).2) from rfl)
          have HFL := Lib.hid (fbAt_len b s5 j)
          generalize (fbAt b s5 j).1 = fb at HIj HFN HFL
          generalize (fbAt b s5 j).2 = s6 at HIj HFN
          obtain ⟨Af, cf, hfv⟩ := Kd.R_slice HIj.out.row
          subst hfv
          go_wp2_with fail
          refine wp_region_noPanic ?_
          refine wp_region_last_drew (ds := [7]) (S := fun W => W.heap[gb]? = some (.cells #[.int .i64 f0, .int .i64 f1, .slice Af fb.length cf] 37 (0, 0))) (by kernel_rfl) HIj.out.blk (fun hS => ?_)
          (refine lastTakeG (i := 0) (by kernel_rfl) (by kernel_rfl) (by kernel_rfl) (by kernel_rfl) (by kernel_rfl) (fun _ _ _ _ _ h => h) hS ?_; intro oi hoi; simp only [List.getElem?_toArray, List.getElem?_cons_succ, List.getElem?_cons_zero] at hoi; cases hoi; refine ⟨?_, by rfl, ?_, ?_⟩; rotate_left; (focus (intro wS hSw; skip; go_simp; (first | done | with_reducible rfl))); (try simp only [Act.put, List.setIfInBounds_toArray, List.set_cons_zero, List.set_cons_succ]))
          (refine lastTakeG (i := 1) (by kernel_rfl) (by kernel_rfl) (by kernel_rfl) (by kernel_rfl) (by kernel_rfl) (fun _ _ _ _ _ h => h) hS ?_; intro oi hoi; simp only [List.getElem?_toArray, List.getElem?_cons_succ, List.getElem?_cons_zero] at hoi; cases hoi; refine ⟨?_, by rfl, ?_, ?_⟩; rotate_left; (focus (intro wS hSw; have g2 := (blk_cell hSw 2).trans rfl; go_simp; (first | done | with_reducible rfl))); (try simp only [Act.put, List.setIfInBounds_toArray, List.set_cons_zero, List.set_cons_succ]))
          (refine lastTakeG (i := 2) (by kernel_rfl) (by kernel_rfl) (by kernel_rfl) (by kernel_rfl) (by kernel_rfl) (fun _ _ _ _ _ h => h) hS ?_; intro oi hoi; simp only [List.getElem?_toArray, List.getElem?_cons_succ, List.getElem?_cons_zero] at hoi; cases hoi; refine ⟨?_, by rfl, ?_, ?_⟩; rotate_left; (focus (intro wS hSw; skip; go_simp; (first | done | with_reducible rfl))); (try simp only [Act.put, List.setIfInBounds_toArray, List.set_cons_zero, List.set_cons_succ]))
          (refine lastOneG (i := 3) (by kernel_rfl) (by decide) ?_; intro oi hoi K' hK; simp only [List.getElem?_toArray, List.getElem?_cons_succ, List.getElem?_cons_zero] at hoi; cases hoi)
          go_simp
          refine (HIj.out.d.drewN 1).uint.mono ?_
          rintro r w7 ⟨rfl, hD7, hK7⟩
          have HD7 := Lib.hid hD7
          have HG7 := Lib.hid (blk_kept (blk_drewN HIj.out.blk 1) hK7 (fun h => by have := HIj.out.le; omega))
          have HR7 := Lib.hid (Kd.R_kept (Kd.R_drewN HIj.out.row 1) hK7 (fun k h1 h2 => by have := HIj.out.le; omega))
          have HO7 := Lib.hid (Kd.S_kept (Kd.S_drewN HIj.out.out 1) hK7 (fun k h1 h2 => by have := h1.1; omega))
          have HLE := Lib.hid HIj.out.le
          clear hD7 hK7
          go_wp2_with fail
          (refine hK.out _ _ ?_ (fun hS => ?_); (focus (exact HG7.out)); clear hK K'; (try simp only [Act.put, List.setIfInBounds_toArray, List.set_cons_zero, List.set_cons_succ]))
          generalize uR b s6 = o at HFN
          generalize uS b s6 = s7 at HFN HD7
          (refine lastOneG (i := 4) (by kernel_rfl) (by decide) ?_; intro oi hoi K' hK; simp only [List.getElem?_toArray, List.getElem?_cons_succ, List.getElem?_cons_zero] at hoi; cases hoi)
          go_simp
          (refine hK.out _ _ ?_ (fun hS => ?_); (focus (exact blk_alloc HG7.out _)); clear hK K'; (try simp only [Act.put, List.setIfInBounds_toArray, List.set_cons_zero, List.set_cons_succ]))
          (refine lastOneG (i := 5) (by kernel_rfl) (by decide) ?_; intro oi hoi K' hK; simp only [List.getElem?_toArray, List.getElem?_cons_succ, List.getElem?_cons_zero] at hoi; cases hoi)
          refine Kd.R_append_step (Kd.int .i64) (w0 := w0) w0.heap.size rfl (.tmp 24) (.tmp 27) 22 3 (.int .i64 0) 8 rfl Try.underlying22 infoI rfl (by decide) (by omega) (.slice Af fb.length cf) fb o [.int .i64 o] (fun k => gb < k) (fun _ => False) rfl rfl rfl (fun _ hk => hk.elim) (fun k hk => by have := blk_lt HG7.out; omega) HR7.out HD7.out.below HD7.out.below.size (by have := HFL.out; omega) ?_
          intro v8 w8 hR8 hB8 hG8 hA8
          obtain ⟨A8, c8, hv8⟩ := Kd.R_slice hR8
          subst hv8
          rw [show (fb ++ [o]).length = fb.length + 1 by simp] at hR8
          have HGT := Lib.hid (show ∀ k, (Value.slice Af fb.length cf).ownBlock = some k → gb < k from HR7.out.1)
          have HG8 := Lib.hid (blk_grown HG7.out hG8 (fun h => by have := HGT.out gb h.symm; omega))
          have HK8 := Lib.hid (Kept.of_grown hG8 (Kept.refl w7 (fun k => gb < k)) (fun k hk => .inl (HGT.out k hk)))
          have HR8 := Lib.hid hR8; have HB8 := Lib.hid hB8
          clear hR8 hB8 hG8 hA8
          (refine hK.out _ _ ?_ (fun hS => ?_); (focus (exact HG8.out)); clear hK K'; (try simp only [Act.put, List.setIfInBounds_toArray, List.set_cons_zero, List.set_cons_succ]))
          (refine lastTakeG (i := 6) (by kernel_rfl) (by kernel_rfl) (by kernel_rfl) (by kernel_rfl) (by kernel_rfl) (fun _ _ _ _ _ h => h) hS ?_; intro oi hoi; simp only [List.getElem?_toArray, List.getElem?_cons_succ, List.getElem?_cons_zero] at hoi; cases hoi; refine ⟨?_, by rfl, ?_, ?_⟩; rotate_left; (focus (intro wS hSw; skip; go_simp; (first | done | with_reducible rfl))); (try simp only [Act.put, List.setIfInBounds_toArray, List.set_cons_zero, List.set_cons_succ]))
          (refine lastLastG (i := 7) (by kernel_rfl) (by decide) ?_; intro oi hoi K' hK; simp only [List.getElem?_toArray, List.getElem?_cons_succ, List.getElem?_cons_zero] at hoi; cases hoi)
          have hfz : w8.frozen? ⟨gb, 2, none⟩ = false := blk_frozen HG8.out 2
          have hcl : w8.cell? ⟨gb, 2, none⟩ = some (.slice Af fb.length cf) := (blk_cell HG8.out 2).trans rfl
          go_simp
          (refine hK.out _ _ ?_; clear hK K'; (try simp only [Act.put, List.setIfInBounds_toArray, List.set_cons_zero, List.set_cons_succ]))
          refine wpAnyLast_done (by kernel_rfl) ?_ _
          refine NoPanic.normal ?_
          have HIn := Lib.hid (show DecIn w0 w1 (w8.setCell ⟨gb, 2, none⟩ (.slice A8 (fb.length + 1) c8)) rb (fun k => w.heap.size ≤ k ∧ k < rb) vin b s7 gb f0 f1 (.slice A8 (fb.length + 1) c8) (fb ++ [o]) u5 out from
            ⟨HD7.out.step (S := fun k => gb ≤ k) (HB8.out.setCell (by have := HLE.out; have := HD7.out.rd.hb; simp; omega) _) ((HK8.out.mono (fun k h => Nat.le_of_lt h)).setCell (.inl (by simp)) _) (by have := HLE.out; omega) (fun k h1 h2 => by have := HLE.out; omega) (fun k h => by have := HLE.out; omega),
              HLE.out, blk_put HG8.out 2 _ rfl, Kd.R_far HR8.out (fun k h => by simp; omega) _, Kd.S_far (Kd.S_kept HO7.out HK8.out (fun k h1 h2 => by omega)) (fun k h => by simp; omega) _⟩)
          clear hfz hcl
          go_wp2_with fail
          go_roundg (m2 - (j + 1))
          case measure => have := HMj.out; omega
          case rel => exact ⟨j + 1, .slice A8 (fb.length + 1) c8, by go_num, by omega, ⟨by omega⟩, ⟨by rw [HFN.out]; exact HIn.out⟩⟩
        · have q2 : decide ((j : Int) < (m2 : Int)) = false := decide_eq_false (by omega)
          obtain rfl : j = m2 := by omega
          have HBD := Lib.hid (show bidOf b s = ⟨f0, f1, (fbAt b s5 j).1⟩ ∧ bidS b s = (fbAt b s5 j).2 from ⟨HBO.out, HBS.out⟩)
          generalize (fbAt b s5 j).1 = fb at HIj HBD
          generalize (fbAt b s5 j).2 = s6 at HIj HBD
          obtain ⟨Af, cf, hfv⟩ := Kd.R_slice HIj.out.row
          subst hfv
          obtain ⟨Ao, co, hov⟩ := Kd.R_slice (Kd.S_R HIj.out.out)
          subst hov
          have e0 : wr.cell? ⟨gb, 0, none⟩ = some (.int .i64 f0) := (blk_cell HIj.out.blk 0).trans rfl
          have e1 : wr.cell? ⟨gb, 1, none⟩ = some (.int .i64 f1) := (blk_cell HIj.out.blk 1).trans rfl
          have e2 : wr.cell? ⟨gb, 2, none⟩ = some (.slice Af fb.length cf) := (blk_cell HIj.out.blk 2).trans rfl
          have HGT := Lib.hid (show ∀ k, (Value.slice Ao out.length co).ownBlock = some k → w1.heap.size ≤ k ∧ k < gb from (Kd.S_R HIj.out.out).1)
          have hll : out.length ≤ 512 := by have := HLN.out; omega
          have hgl := HIj.out.le
          have hgw := blk_lt HIj.out.blk
          have HaK := Lib.hid (show ∀ k, gb < k → w1.heap.size ≤ k ∧ some k ≠ (Value.slice Ao out.length co).ownBlock from fun k hk => ⟨(by omega), fun he => (by have h7 := HGT.out k he.symm; omega)⟩)
          have HaO := Lib.hid (Kd.S_mono (ok' := fun k => w1.heap.size ≤ k ∧ ¬ gb < k) HIj.out.out (fun k hk => ⟨hk.1, (by omega)⟩))
          have HaF := Lib.hid (show ∀ k, wr.heap.size ≤ k → w1.heap.size ≤ k from fun k hk => (by omega))
          go_wp2_with (first | ((with_reducible refine gate_builtin (b := .append) (xs := #[.tmp 31, .tmp 33]) rfl ?_); at_builtin; refine Kd.S_append kBid (w0 := w0) w0.heap.size rfl (.tmp 31) (.tmp 33) 38 37 (.agg #[.int .i64 0, .int .i64 0, .slice none 0 0]) 40 rfl Try.underlying38 infoBid rfl (by decide) (by omega) (.slice Ao out.length co) out (⟨f0, f1, fb⟩ : Bid) [.int .i64 f0, .int .i64 f1, .slice Af fb.length cf] (fun k => w1.heap.size ≤ k) (fun k => gb < k) rfl rfl ?aP ?aK ?aF ?aO HIj.out.d.below HIj.out.d.below.size (by omega) ?_; (case aP => exact ⟨[.int .i64 f0], [.int .i64 f1, .slice Af fb.length cf], rfl, rfl, ⟨[.int .i64 f1], [.slice Af fb.length cf], rfl, rfl, ⟨_, rfl, HIj.out.row⟩⟩⟩); (case aK => exact HaK.out); (case aF => exact HaF.out); (case aO => exact HaO.out); intro v9 w9 hO9 hB9 hG9 hA9; have HO9 := Lib.hid hO9; have HB9 := Lib.hid hB9; have HG9 := Lib.hid hG9; clear hO9 hB9 hG9 hA9))
          have HD9 := Lib.hid (HIj.out.d.step (S := fun k => w1.heap.size ≤ k) HB9.out (Kept.of_grown HG9.out (Kept.refl wr _) (fun k hk => .inl (HGT.out k hk).1)) (by omega) (fun k h1 h2 => by omega) (fun k h => h))
          clear HB9 HG9 e0 e1 e2
          go_roundg (m - (k + 1))
          case measure => have := HM.out; omega
          case rel => exact ⟨k + 1, by go_num, by omega, ⟨by omega⟩, ⟨by rw [HDN.out, HBD.out.2]; exact HD9.out⟩, ⟨by rw [HDN.out, HBD.out.1]; exact HO9.out⟩⟩
    · have q1 : decide ((k : Int) < (m : Int)) = false := decide_eq_false (by omega)
      obtain rfl : k = m := by omega
      have HA1 := Lib.hid (show decE b = endE (decAt b s1 k).2.1 (decAt b s1 k).2.2 b by unfold decE; rw [HDA.out])
      have HA2 := Lib.hid (show (decAll b).1 = (decAt b s1 k).1 by rw [HDA.out])
      have HLN := Lib.hid (decAt_len b s1 k)
      generalize (decAt b s1 k).1 = out at HO HA2 HLN
      generalize (decAt b s1 k).2 = s at HD HA1
      have HEN := Lib.hid (rdEnd_calls wr w0.heap.size rb _ vin s.1 s.2 b HD.out.rd)
      rw [← HA1.out] at HEN
      obtain ⟨ee, hee⟩ : ∃ ee, decE b = ee := ⟨_, rfl⟩
      have HEE := Lib.hid hee
      rw [hee] at HEN
      have HKw := Lib.hid (HK1.out.then_ HD.out.kept (fun k hk => .inr (by omega)))
      clear hee
      by_cases he : ee = 0
      · subst he
        obtain ⟨Ao, co, hov⟩ := Kd.R_slice (Kd.S_R HO.out)
        subst hov
        have HCB := Lib.hid (Kd.R_reads' (Kd.S_R HO.out)).2.2
        have HVB := Lib.hid (fun n => validBids_calls w0 (wr.drewN n) Ao co out (pw_below_drewN HD.out.below n) (Kd.C_drewN HCB.out n) (by have := HLN.out; omega))
        obtain ⟨vb, hvb⟩ : ∃ vb, validBids out = vb := ⟨_, rfl⟩
        have HVV := Lib.hid (show validBids (decAll b).1 = vb by rw [HA2.out]; exact hvb)
        rw [hvb] at HVB
        clear hvb
        go_wp2_with fail
        refine HEN.out.mono ?_
        rintro r w5 ⟨rfl, n5, rfl⟩
        go_wp2_with fail
        refine (HVB.out n5).mono ?_
        rintro r w6 ⟨rfl, hB6, hK6⟩
        have HO6 := Lib.hid (Kd.S_mono (ok' := fun k => w.heap.size ≤ k) (Kd.S_kept (Kd.S_drewN HO.out n5) hK6 (fun _ _ => id)) (fun k hk => Nat.le_trans HK1.out.1 hk))
        have HB6 := Lib.hid hB6; have HK6 := Lib.hid (HKw.out.then_ (((Kept.refl wr (fun _ => False)).drewN n5).then_ hK6 (fun _ h => h.elim)) (fun _ h => h.elim))
        clear hB6 hK6
        cases vb with
        | false =>
          go_wp2_with fail
          go_ret2
          exact DecPost.bad HEE.out HVV.out HB6.out HK6.out
        | true =>
          go_wp2_with fail
          go_ret2
          exact DecPost.good HEE.out HVV.out HA2.out HO6.out HB6.out HK6.out
      · have hne : (ee != 0) = true := by simpa using he
        have HNE := Lib.hid he
        clear he
        go_wp2_with fail
        refine HEN.out.mono ?_
        rintro r w5 ⟨rfl, n5, rfl⟩
        go_wp2_with fail
        go_ret2
        exact DecPost.err HEE.out HNE.out (pw_below_drewN HD.out.below n5) (HKw.out.drewN n5)
end Go.Proofs.Ytmmmhkeecaangaa.Wire
